/-
  Walks through the given program: each theorem fnN says what the call of function N of the translation hands back, for all arguments that its premises describe, and that nothing that was there has turned.
-/
import Derived.Test.YtjnagpddiemdhaaW12
namespace Go.Proofs.Ytjnagpddiemdhaa
open Go.Lane
theorem can13 : Callable Try.prog 13 := ⟨Try.f13, Try.func13, by kernel_rfl, rfl⟩
theorem can27 : Callable Try.prog 27 := ⟨Try.f27, Try.func27, by kernel_rfl, rfl⟩
def ann : List UInt8 := [97, 110, 110]
def bob : List UInt8 := [98, 111, 98]
def clerk : List UInt8 := [99, 108, 101, 114, 107]
def check_ : List UInt8 := [99, 104, 101, 99, 107]
def O1 : Wk.Work := { offered 1 with state := 2, owner := ann }
def O2 : Wk.Work := { offered 1 with state := 3, owner := ann }
theorem n_offer : Wk.offerE [] (offered 1) = 0 := by decide +kernel
theorem n_offerL : Wk.offerL [] (offered 1) = [offered 1] := by decide +kernel
theorem n_take : Wk.turnE [offered 1] 1 ann 1 = 0 := by decide +kernel
theorem n_takeL : Wk.turnL [offered 1] 1 ann 1 2 = [O1] := by decide +kernel
theorem n_take2 : Wk.turnE [O1] 1 bob 1 = 230 := by decide +kernel
theorem n_back : Wk.turnE [O1] 1 bob 2 = 230 := by decide +kernel
theorem n_done : Wk.turnE [O1] 1 ann 2 = 0 := by decide +kernel
theorem n_doneL : Wk.turnL [O1] 1 ann 2 3 = [O2] := by decide +kernel
theorem n_check : Wk.checkE [O2] = 0 := by decide +kernel
theorem n_dropL : Wk.dropL [O2] 3 check_ = [O2] := by decide +kernel
theorem n_for : Wk.forE [O1] bob [clerk] 0 9 = 0 := by decide +kernel
theorem n_forL : Wk.forL [O1] bob [clerk] 0 9 = [] := by decide +kernel
theorem n_for2 : Wk.forE [O1] ann [] 0 9 = 0 := by decide +kernel
theorem n_for2L : Wk.forL [O1] ann [] 0 9 = [O1] := by decide +kernel

theorem fn13 (w : World) : Rets Try.prog 13 #[] w (fun v w' => v = .bool true ∧ Ch [] w w') := by
  refine Rets.of (n := 40) (vs := []) Try.func13 rfl rfl rfl ?_
  refine TC.seq ?_
  refine TC.region ?_
  refine TL.assign rfl rfl ?_
  refine TL.done ?_
  refine Thn.go ?_
  refine TC.seq ?_
  refine TC.region ?_
  refine TL.call can27 rfl rfl (fn27 1 w) (fun v6 w6 hr6 => ?_)
  obtain ⟨rfl, hc6⟩ := hr6
  refine TL.call can15 rfl rfl (fn15 _ [] (offered 1) w6 (Rd.nil w6 6)) (fun v7 w7 hr7 => ?_)
  obtain ⟨r7, rfl, hv7, hc7⟩ := hr7
  rw [n_offer]
  rw [n_offerL] at hv7
  refine TL.move rfl rfl ?_
  refine TL.extract rfl rfl rfl ?_
  refine TL.extract rfl rfl rfl ?_
  refine TL.assign rfl rfl ?_
  refine TL.assign rfl rfl ?_
  refine TL.done ?_
  refine Thn.go ?_
  refine TC.seq ?_
  refine TC.region ?_
  refine TL.move rfl rfl ?_
  refine TL.call can17 rfl rfl (fn17 _ [offered 1] 1 ann w7 (Rd.ofOwn hv7)) (fun v12 w12 hr12 => ?_)
  obtain ⟨r12, rfl, hv12, hc12⟩ := hr12
  rw [n_take]
  rw [n_takeL] at hv12
  replace hv12 : Own w12 w7.heap.size 33 6 r12 1 ([O1].flatMap cl) := hv12
  obtain ⟨g, c, rfl⟩ := hv12.form (by decide)
  have hce : ∀ j, j < 6 → w12.cell? ⟨g, 0 + 0 * 6 + j, none⟩ = (cl O1)[j]? := fun j hj => by obtain ⟨b', o', e, hh⟩ := recAt (l := [O1]) (i := 0) (Rd.ofOwn hv12) (by decide); cases e; exact hh j hj
  refine TL.move rfl rfl ?_
  refine TL.extract rfl rfl rfl ?_
  refine TL.extract rfl rfl rfl ?_
  refine TL.assign rfl rfl ?_
  refine TL.assign rfl rfl ?_
  refine TL.done ?_
  refine Thn.go ?_
  refine TC.cut0 ([(0, .bool true)]) (fun w2 => w2 = w12) (fun K1 hK1 => ?_) (fun w2 hH => ?_)
  ·
    refine TC.region ?_
    refine TL.move rfl rfl ?_
    refine TL.eql rfl rfl rfl ?_
    refine TL.yes (rfl) ?_
    refine TL.move rfl rfl ?_
    refine TL.guardYes (d := 17) rfl rfl rfl ?_
    refine TL.move rfl rfl ?_
    refine TL.guardYes (d := 17) rfl rfl rfl ?_
    refine TL.eql rfl rfl rfl ?_
    refine TL.yes (rfl) ?_
    refine TL.pickT rfl rfl rfl rfl ?_
    refine TL.move rfl rfl ?_
    refine TL.guardYes (d := 21) rfl rfl rfl ?_
    refine TL.move rfl rfl ?_
    refine TL.guardYes (d := 21) rfl rfl rfl ?_
    refine TL.lenSlice Try.underlying22 rfl rfl ?_
    refine TL.guardYes (d := 21) rfl rfl rfl ?_
    refine TL.eql rfl rfl rfl ?_
    refine TL.yes (rfl) ?_
    refine TL.pickT rfl rfl rfl rfl ?_
    refine TL.move rfl rfl ?_
    refine TL.guardYes (d := 26) rfl rfl rfl ?_
    refine TL.move rfl rfl ?_
    refine TL.guardYes (d := 26) rfl rfl rfl ?_
    refine TL.indexAddr (0) sl22 rfl rfl (by first | rfl | omega) (by omega) rfl ?_
    refine TL.guardYes (d := 26) rfl rfl rfl ?_
    refine TL.fieldAddr fd33k4 rfl rfl ?_
    refine TL.guardYes (d := 26) rfl rfl rfl ?_
    refine TL.load pl5 rfl ((show _ = some (u8 2) from hce 4 (by decide))) rfl ?_
    refine TL.guardYes (d := 26) rfl rfl rfl ?_
    refine TL.eql rfl rfl rfl ?_
    refine TL.yes (rfl) ?_
    refine TL.pickT rfl rfl rfl rfl ?_
    refine TL.move rfl rfl ?_
    refine TL.guardYes (d := 33) rfl rfl rfl ?_
    refine TL.move rfl rfl ?_
    refine TL.guardYes (d := 33) rfl rfl rfl ?_
    refine TL.indexAddr (0) sl22 rfl rfl (by first | rfl | omega) (by omega) rfl ?_
    refine TL.guardYes (d := 33) rfl rfl rfl ?_
    refine TL.fieldAddr fd33k5 rfl rfl ?_
    refine TL.guardYes (d := 33) rfl rfl rfl ?_
    refine TL.load pl9 rfl ((show _ = some (str ann) from hce 5 (by decide))) rfl ?_
    refine TL.guardYes (d := 33) rfl rfl rfl ?_
    refine TL.eqlStr rfl rfl rfl ?_
    refine TL.yes (rfl) ?_
    refine TL.pickT rfl rfl rfl rfl ?_
    refine TL.assign rfl rfl ?_
    refine TL.done ?_
    exact hK1  _ _ (by repeat (first | exact trivial | refine ⟨rfl, ?_⟩ | refine ⟨congrArg (fun b => some (Value.bool b)) (by first | exact (decide_eq_true (by grind)).symm | exact (decide_eq_false (by grind)).symm | exact decide_eq_decide.2 (by grind) | exact decide_eq_true (by grind) | exact decide_eq_false (by grind) | (exfalso; grind)), ?_⟩)) (rfl)
  ·
    refine TC.ret ?_
    refine Ends.ret [0] rfl rfl ?_
    exact ⟨rfl, by subst hH; exact (hc6.trans0 hc7).trans0 hc12⟩

theorem fn7 (w : World) : Rets Try.prog 7 #[] w (fun v w' => v = .bool true ∧ Ch [] w w') := by
  refine Rets.of (n := 122) (vs := []) Try.func7 rfl rfl rfl ?_
  refine TC.seq ?_
  refine TC.region ?_
  refine TL.assign rfl rfl ?_
  refine TL.done ?_
  refine Thn.go ?_
  refine TC.seq ?_
  refine TC.region ?_
  refine TL.call can27 rfl rfl (fn27 1 w) (fun v19 w19 hr19 => ?_)
  obtain ⟨rfl, hc19⟩ := hr19
  refine TL.call can15 rfl rfl (fn15 _ [] (offered 1) w19 (Rd.nil w19 6)) (fun v20 w20 hr20 => ?_)
  obtain ⟨r20, rfl, hv20, hc20⟩ := hr20
  rw [n_offer]
  rw [n_offerL] at hv20
  refine TL.move rfl rfl ?_
  refine TL.extract rfl rfl rfl ?_
  refine TL.extract rfl rfl rfl ?_
  refine TL.assign rfl rfl ?_
  refine TL.assign rfl rfl ?_
  refine TL.done ?_
  refine Thn.go ?_
  refine TC.seq ?_
  refine TC.region ?_
  refine TL.move rfl rfl ?_
  refine TL.call can17 rfl rfl (fn17 _ [offered 1] 1 ann w20 (Rd.ofOwn hv20)) (fun v25 w25 hr25 => ?_)
  obtain ⟨r25, rfl, hv25, hc25⟩ := hr25
  rw [n_take]
  rw [n_takeL] at hv25
  refine TL.move rfl rfl ?_
  refine TL.extract rfl rfl rfl ?_
  refine TL.extract rfl rfl rfl ?_
  refine TL.assign rfl rfl ?_
  refine TL.assign rfl rfl ?_
  refine TL.done ?_
  refine Thn.go ?_
  refine TC.seq ?_
  refine TC.region ?_
  refine TL.move rfl rfl ?_
  refine TL.call can17 rfl rfl (fn17 _ [O1] 1 bob w25 (Rd.ofOwn hv25)) (fun v30 w30 hr30 => ?_)
  obtain ⟨r30, rfl, _, hc30⟩ := hr30
  rw [n_take2]
  refine TL.move rfl rfl ?_
  refine TL.extract rfl rfl rfl ?_
  refine TL.extract rfl rfl rfl ?_
  refine TL.assign rfl rfl ?_
  refine TL.assign rfl rfl ?_
  refine TL.done ?_
  refine Thn.go ?_
  refine TC.seq ?_
  refine TC.region ?_
  refine TL.move rfl rfl ?_
  refine TL.call can19 rfl rfl (fn19 _ [O1] 1 bob w30 (Rd.ofOwn (hv25.ch0 hc30))) (fun v35 w35 hr35 => ?_)
  obtain ⟨r35, rfl, _, hc35⟩ := hr35
  rw [n_back]
  have q35 := hc30.trans0 hc35
  refine TL.move rfl rfl ?_
  refine TL.extract rfl rfl rfl ?_
  refine TL.extract rfl rfl rfl ?_
  refine TL.assign rfl rfl ?_
  refine TL.assign rfl rfl ?_
  refine TL.done ?_
  refine Thn.go ?_
  refine TC.seq ?_
  refine TC.region ?_
  refine TL.move rfl rfl ?_
  refine TL.call can21 rfl rfl (fn21 _ [O1] 1 ann w35 (Rd.ofOwn (hv25.ch0 q35))) (fun v40 w40 hr40 => ?_)
  obtain ⟨r40, rfl, hv40, hc40⟩ := hr40
  rw [n_done]
  rw [n_doneL] at hv40
  replace hv40 : Own w40 w35.heap.size 33 6 r40 1 ([O2].flatMap cl) := hv40
  obtain ⟨g, c, rfl⟩ := hv40.form (by decide)
  have q40 := q35.trans0 hc40
  refine TL.move rfl rfl ?_
  refine TL.extract rfl rfl rfl ?_
  refine TL.extract rfl rfl rfl ?_
  refine TL.assign rfl rfl ?_
  refine TL.assign rfl rfl ?_
  refine TL.done ?_
  refine Thn.go ?_
  refine TC.seq ?_
  refine TC.region ?_
  refine TL.move rfl rfl ?_
  refine TL.call can23 rfl rfl (fn23 _ [O2] 3 check_ w40 (Rd.ofOwn hv40)) (fun v45 w45 hr45 => ?_)
  obtain ⟨r45, rfl, hv45, hc45⟩ := hr45
  rw [n_check]
  rw [n_dropL] at hv45
  replace hv45 : Own w45 w40.heap.size 33 6 r45 1 ([O2].flatMap cl) := hv45
  obtain ⟨g45, c45, rfl⟩ := hv45.form (by decide)
  have q45 := q40.trans0 hc45
  refine TL.move rfl rfl ?_
  refine TL.extract rfl rfl rfl ?_
  refine TL.extract rfl rfl rfl ?_
  refine TL.assign rfl rfl ?_
  refine TL.assign rfl rfl ?_
  refine TL.done ?_
  refine Thn.go ?_
  refine TC.seq ?_
  refine TC.region ?_
  refine TL.move rfl rfl ?_
  refine TL.buildSlice [.const (Value.string {data := #[99, 108, 101, 114, 107]})] sl23 rfl rfl rfl (by decide) (by first | simp [Value.cells]; done | simp [Value.cells, cl_len]; done) rfl (fun w50 hb50 hc50 hz50 => ?_)
  refine TL.call can9 rfl rfl (fn9 _ [O1] bob _ [clerk] 0 9 w50 (Rd.ofOwn (hv25.ch0 (q45.trans0 hc50))) (Rd.ofFlat (sz := 1) (m := 1) (vs := [str clerk]) hb50 (by simp [Value.cells, str]) rfl (by decide))) (fun v51 w51 hr51 => ?_)
  obtain ⟨r51, rfl, hv51, hc51⟩ := hr51
  rw [n_for]
  rw [n_forL] at hv51
  replace hv51 : Own w51 w50.heap.size 33 6 r51 0 ([].flatMap cl) := hv51
  obtain ⟨a51, c51, rfl⟩ := hv51.shape
  have q51 := (q45.trans0 hc50).trans0 hc51
  refine TL.move rfl rfl ?_
  refine TL.extract rfl rfl rfl ?_
  refine TL.extract rfl rfl rfl ?_
  refine TL.assign rfl rfl ?_
  refine TL.assign rfl rfl ?_
  refine TL.done ?_
  refine Thn.go ?_
  refine TC.seq ?_
  refine TC.region ?_
  refine TL.move rfl rfl ?_
  refine TL.call can9 rfl rfl (fn9 _ [O1] ann _ [] 0 9 w51 (Rd.ofOwn (hv25.ch0 q51)) (Rd.nil w51 1)) (fun v56 w56 hr56 => ?_)
  obtain ⟨r56, rfl, hv56, hc56⟩ := hr56
  rw [n_for2]
  rw [n_for2L] at hv56
  replace hv56 : Own w56 w51.heap.size 33 6 r56 1 ([O1].flatMap cl) := hv56
  obtain ⟨g56, c56, rfl⟩ := hv56.form (by decide)
  have hce : ∀ j, j < 6 → w56.cell? ⟨g, 0 + 0 * 6 + j, none⟩ = (cl O2)[j]? := fun j hj => by obtain ⟨b', o', e, hh⟩ := recAt (l := [O2]) (i := 0) (Rd.ofOwn ((((hv40.ch0 hc45).ch0 hc50).ch0 hc51).ch0 hc56)) (by decide); cases e; exact hh j hj
  refine TL.move rfl rfl ?_
  refine TL.extract rfl rfl rfl ?_
  refine TL.extract rfl rfl rfl ?_
  refine TL.assign rfl rfl ?_
  refine TL.assign rfl rfl ?_
  refine TL.done ?_
  refine Thn.go ?_
  refine TC.cut0 ([(13, .slice a51 0 c51), (14, .int .i64 0), (15, .slice (some ⟨g56, 0, none⟩) 1 c56), (16, .int .i64 0), (17, .bool true)]) (fun w2 => w56 = w2) (fun K1 hK1 => ?_) (fun w2 hH => ?_)
  ·
    refine TC.region ?_
    refine TL.move rfl rfl ?_
    refine TL.eql rfl rfl rfl ?_
    refine TL.yes (rfl) ?_
    refine TL.move rfl rfl ?_
    refine TL.guardYes (d := 61) rfl rfl rfl ?_
    refine TL.move rfl rfl ?_
    refine TL.guardYes (d := 61) rfl rfl rfl ?_
    refine TL.eql rfl rfl rfl ?_
    refine TL.yes (rfl) ?_
    refine TL.pickT rfl rfl rfl rfl ?_
    refine TL.move rfl rfl ?_
    refine TL.guardYes (d := 65) rfl rfl rfl ?_
    refine TL.move rfl rfl ?_
    refine TL.guardYes (d := 65) rfl rfl rfl ?_
    refine TL.eql rfl rfl rfl ?_
    refine TL.yes (rfl) ?_
    refine TL.pickT rfl rfl rfl rfl ?_
    refine TL.move rfl rfl ?_
    refine TL.guardYes (d := 69) rfl rfl rfl ?_
    refine TL.move rfl rfl ?_
    refine TL.guardYes (d := 69) rfl rfl rfl ?_
    refine TL.eql rfl rfl rfl ?_
    refine TL.yes (rfl) ?_
    refine TL.pickT rfl rfl rfl rfl ?_
    refine TL.move rfl rfl ?_
    refine TL.guardYes (d := 73) rfl rfl rfl ?_
    refine TL.move rfl rfl ?_
    refine TL.guardYes (d := 73) rfl rfl rfl ?_
    refine TL.eql rfl rfl rfl ?_
    refine TL.yes (rfl) ?_
    refine TL.pickT rfl rfl rfl rfl ?_
    refine TL.move rfl rfl ?_
    refine TL.guardYes (d := 77) rfl rfl rfl ?_
    refine TL.move rfl rfl ?_
    refine TL.guardYes (d := 77) rfl rfl rfl ?_
    refine TL.lenSlice Try.underlying22 rfl rfl ?_
    refine TL.guardYes (d := 77) rfl rfl rfl ?_
    refine TL.eql rfl rfl rfl ?_
    refine TL.yes (rfl) ?_
    refine TL.pickT rfl rfl rfl rfl ?_
    refine TL.move rfl rfl ?_
    refine TL.guardYes (d := 82) rfl rfl rfl ?_
    refine TL.move rfl rfl ?_
    refine TL.guardYes (d := 82) rfl rfl rfl ?_
    refine TL.indexAddr (0) sl22 rfl rfl (by first | rfl | omega) (by omega) rfl ?_
    refine TL.guardYes (d := 82) rfl rfl rfl ?_
    refine TL.fieldAddr fd33k4 rfl rfl ?_
    refine TL.guardYes (d := 82) rfl rfl rfl ?_
    refine TL.load pl5 rfl ((show _ = some (u8 3) from hce 4 (by decide))) rfl ?_
    refine TL.guardYes (d := 82) rfl rfl rfl ?_
    refine TL.eql rfl rfl rfl ?_
    refine TL.yes (rfl) ?_
    refine TL.pickT rfl rfl rfl rfl ?_
    refine TL.move rfl rfl ?_
    refine TL.guardYes (d := 89) rfl rfl rfl ?_
    refine TL.move rfl rfl ?_
    refine TL.guardYes (d := 89) rfl rfl rfl ?_
    refine TL.eql rfl rfl rfl ?_
    refine TL.yes (rfl) ?_
    refine TL.pickT rfl rfl rfl rfl ?_
    refine TL.move rfl rfl ?_
    refine TL.guardYes (d := 93) rfl rfl rfl ?_
    refine TL.move rfl rfl ?_
    refine TL.guardYes (d := 93) rfl rfl rfl ?_
    refine TL.lenSlice Try.underlying22 rfl rfl ?_
    refine TL.guardYes (d := 93) rfl rfl rfl ?_
    refine TL.eql rfl rfl rfl ?_
    refine TL.yes (rfl) ?_
    refine TL.pickT rfl rfl rfl rfl ?_
    refine TL.assign rfl rfl ?_
    refine TL.done ?_
    exact hK1  _ _ (by repeat (first | exact trivial | refine ⟨rfl, ?_⟩ | refine ⟨congrArg (fun b => some (Value.bool b)) (by first | exact (decide_eq_true (by grind)).symm | exact (decide_eq_false (by grind)).symm | exact decide_eq_decide.2 (by grind) | exact decide_eq_true (by grind) | exact decide_eq_false (by grind) | (exfalso; grind)), ?_⟩)) (rfl)
  ·
    subst hH
    refine TC.cut0 ([(0, .bool true)]) (fun w3 => Ch [] w56 w3) (fun K2 hK2 => ?_) (fun w3 hH => ?_)
    ·
      refine TC.region ?_
      refine TL.move rfl rfl ?_
      refine TL.guardYes (d := 98) rfl rfl rfl ?_
      refine TL.call can13 rfl rfl (fn13 w56) (fun v99 w99 hr99 => ?_)
      obtain ⟨rfl, hc99⟩ := hr99
      refine TL.pickT rfl rfl rfl rfl ?_
      refine TL.move rfl rfl ?_
      refine TL.guardYes (d := 101) rfl rfl rfl ?_
      refine TL.move rfl rfl ?_
      refine TL.emB (fun e102 => ?_) (fun e102 => ?_)
      ·
        refine TL.pickT rfl rfl rfl rfl ?_
        refine TL.move rfl rfl ?_
        refine TL.guardYes (d := 104) rfl rfl rfl ?_
        refine TL.move rfl rfl ?_
        refine TL.guardYes (d := 104) rfl rfl rfl ?_
        refine TL.eql rfl rfl rfl ?_
        refine TL.yes (rfl) ?_
        refine TL.pickT rfl rfl rfl rfl ?_
        refine TL.move rfl rfl ?_
        refine TL.guardYes (d := 108) rfl rfl rfl ?_
        refine TL.move rfl rfl ?_
        refine TL.guardYes (d := 108) rfl rfl rfl ?_
        refine TL.lenSlice Try.underlying22 rfl rfl ?_
        refine TL.guardYes (d := 108) rfl rfl rfl ?_
        refine TL.eql rfl rfl rfl ?_
        refine TL.yes (rfl) ?_
        refine TL.pickT rfl rfl rfl rfl ?_
        refine TL.move rfl rfl ?_
        refine TL.guardYes (d := 113) rfl rfl rfl ?_
        refine TL.move rfl rfl ?_
        refine TL.guardYes (d := 113) rfl rfl rfl ?_
        refine TL.eql rfl rfl rfl ?_
        refine TL.yes (rfl) ?_
        refine TL.pickT rfl rfl rfl rfl ?_
        refine TL.move rfl rfl ?_
        refine TL.guardYes (d := 117) rfl rfl rfl ?_
        refine TL.move rfl rfl ?_
        refine TL.guardYes (d := 117) rfl rfl rfl ?_
        refine TL.lenSlice Try.underlying22 rfl rfl ?_
        refine TL.guardYes (d := 117) rfl rfl rfl ?_
        refine TL.eql rfl rfl rfl ?_
        refine TL.yes (rfl) ?_
        refine TL.pickT rfl rfl rfl rfl ?_
        refine TL.assign rfl rfl ?_
        refine TL.done ?_
        exact hK2  _ _ (by repeat (first | exact trivial | refine ⟨rfl, ?_⟩ | refine ⟨congrArg (fun b => some (Value.bool b)) (by first | exact (decide_eq_true (by grind)).symm | exact (decide_eq_false (by grind)).symm | exact decide_eq_decide.2 (by grind) | exact decide_eq_true (by grind) | exact decide_eq_false (by grind) | (exfalso; grind)), ?_⟩)) (by first | exact hc99 | exact absurd e102 (by decide))
      ·
        refine TL.pickT rfl rfl rfl rfl ?_
        refine TL.move rfl rfl ?_
        refine TL.guardNo (d := 104) rfl rfl rfl rfl rfl ?_
        refine TL.guardNo (d := 104) rfl rfl rfl rfl rfl ?_
        refine TL.pickF rfl rfl rfl rfl ?_
        refine TL.move rfl rfl ?_
        refine TL.guardNo (d := 108) rfl rfl rfl rfl rfl ?_
        refine TL.guardNo (d := 108) rfl rfl rfl rfl rfl ?_
        refine TL.guardNo (d := 108) rfl rfl rfl rfl rfl ?_
        refine TL.pickF rfl rfl rfl rfl ?_
        refine TL.move rfl rfl ?_
        refine TL.guardNo (d := 113) rfl rfl rfl rfl rfl ?_
        refine TL.guardNo (d := 113) rfl rfl rfl rfl rfl ?_
        refine TL.pickF rfl rfl rfl rfl ?_
        refine TL.move rfl rfl ?_
        refine TL.guardNo (d := 117) rfl rfl rfl rfl rfl ?_
        refine TL.guardNo (d := 117) rfl rfl rfl rfl rfl ?_
        refine TL.guardNo (d := 117) rfl rfl rfl rfl rfl ?_
        refine TL.pickF rfl rfl rfl rfl ?_
        refine TL.assign rfl rfl ?_
        refine TL.done ?_
        exact hK2  _ _ (by repeat (first | exact trivial | refine ⟨rfl, ?_⟩ | refine ⟨congrArg (fun b => some (Value.bool b)) (by first | exact (decide_eq_true (by grind)).symm | exact (decide_eq_false (by grind)).symm | exact decide_eq_decide.2 (by grind) | exact decide_eq_true (by grind) | exact decide_eq_false (by grind) | (exfalso; grind)), ?_⟩)) (by first | exact hc99 | exact absurd e102 (by decide))
    ·
      refine TC.ret ?_
      refine Ends.ret [0] rfl rfl ?_
      exact ⟨rfl, (((hc19.trans0 hc20).trans0 hc25).trans0 (q51.trans0 hc56)).trans0 hH⟩

