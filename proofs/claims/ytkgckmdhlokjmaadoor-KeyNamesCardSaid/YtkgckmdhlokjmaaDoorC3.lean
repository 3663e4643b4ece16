/-
  Walks through the given program: each theorem fnN says what the call of function N of the translation hands back, for all arguments that its premises describe, and that nothing that was there has turned.
-/
import Derived.Test.YtkgckmdhlokjmaaDoorB8
namespace Go.Proofs.YtkgckmdhlokjmaaDoor
open Go.Lane
open Go.Key
open Go.RowKit (Below)
theorem sl34 : SliceT Tryd.prog 34 9 1 16 (.string ⟨#[]⟩) := SliceT.mk' Tryd.underlying34 (by kernel_rfl) rfl rfl
def badL : List (List UInt8) := [[1, 2], [2, 97], [2, 97, 0, 2], [3], [2, 97, 0]]
theorem bad_e : ∀ s ∈ badL, cutE s = 60 ∧ s.length ≤ 100000 := by decide +kernel
theorem one_i {p : Part} (h : inI p.int) : ∀ q ∈ [p], inI q.int := by
  intro q hq
  rw [List.mem_singleton.1 hq]; exact h
theorem ex1 : makeE [numP 5] = 0 ∧ makeS [numP 5] = [1, 128, 0, 0, 0, 0, 0, 0, 5] := by decide +kernel
theorem ex2 : makeE [numP (-1)] = 0 ∧ makeS [numP (-1)] = [1, 127, 255, 255, 255, 255, 255, 255, 255] := by decide +kernel
theorem ex3 : makeE [wordP [97, 98]] = 0 ∧ makeS [wordP [97, 98]] = [2, 97, 98, 0, 1] := by decide +kernel
theorem ex4 : makeE [wordP [97, 0]] = 0 ∧ makeS [wordP [97, 0]] = [2, 97, 0, 255, 0, 1] := by decide +kernel
theorem ex5 : aftS [97, 255] = [98] ∧ aftB [97, 255] := by decide +kernel
theorem ex6 : aftS [255] = [] ∧ ¬ aftB [255] := by decide +kernel
theorem ex7 : cmpL [wordP [97]] [wordP [97], numP 1] < 0 := by decide +kernel
theorem ex8 : cmpL [numP 7] [wordP [97]] < 0 := by decide +kernel
def zeroP : Part := ⟨0, 0, []⟩
theorem ex9 : makeE (List.replicate 9 zeroP) = 4 := by decide +kernel
theorem ex10 : makeE [⟨1, 0, [120]⟩] = 8 := by decide +kernel
theorem ex11 : makeE [wordP (List.replicate 200 0)] = 60 := by decide +kernel
theorem made9 : (madeCells (Value.agg #[.int .u8 0, .int .i64 0, .string ⟨#[]⟩]).cells (9 * 3)).toList = (List.replicate 9 zeroP).flatMap cl := by kernel_rfl
theorem made200 : (madeCells (Value.int .u8 0).cells (200 * 1)).toList = (List.replicate 200 (0 : UInt8)).map u8 := by kernel_rfl
theorem in0 : inI 0 := by unfold inI; decide

theorem fn4 (w : World) (h : Sh w) : Rets Tryd.prog 4 #[] w (fun v w' => v = .bool true ∧ Ch [] w w') := by
  have hmm : maxLen = 9223372036854775807 := rfl
  refine Rets.of (n := 152) (vs := []) Tryd.func4 rfl rfl rfl ?_
  refine TC.seq ?_
  refine TC.region ?_
  refine TL.assign rfl rfl ?_
  refine TL.done ?_
  refine Thn.go ?_
  refine TC.seq ?_
  refine TC.region ?_
  refine TL.call can13 rfl rfl (fn13 5 w) (fun v26 w26 hr26 => ?_)
  obtain ⟨rfl, hc26⟩ := hr26
  refine TL.buildSlice [.tmp 26] sl22 rfl rfl rfl (by decide) (by first | simp [Value.cells]; done | simp [Value.cells, cl_len]; done) rfl (fun w27 hb27 hc27 hz27 => ?_)
  have q27 : Ch [] w w27 := hc26.trans0 hc27
  refine TL.call can10 rfl rfl (fn10 _ [numP 5] w27 (h.ch0 q27) (one_i (by unfold inI; decide)) (recsOf [numP 5] rfl rfl hb27 (by decide))) (fun v28 w28 hr28 => ?_)
  rw [ex1.1, ex1.2] at hr28
  obtain ⟨rfl, hc28⟩ := hr28
  have q28 := q27.trans0 hc28
  refine TL.move rfl rfl ?_
  refine TL.extract rfl rfl rfl ?_
  refine TL.extract rfl rfl rfl ?_
  refine TL.assign rfl rfl ?_
  refine TL.assign rfl rfl ?_
  refine TL.done ?_
  refine Thn.go ?_
  refine TC.seq ?_
  refine TC.region ?_
  refine TL.call can13 rfl rfl (fn13 (-1) w28) (fun v32 w32 hr32 => ?_)
  obtain ⟨rfl, hc32⟩ := hr32
  refine TL.buildSlice [.tmp 32] sl22 rfl rfl rfl (by decide) (by first | simp [Value.cells]; done | simp [Value.cells, cl_len]; done) rfl (fun w33 hb33 hc33 hz33 => ?_)
  have q33 : Ch [] w w33 := (q28.trans0 hc32).trans0 hc33
  refine TL.call can10 rfl rfl (fn10 _ [numP (-1)] w33 (h.ch0 q33) (one_i (by unfold inI; decide)) (recsOf [numP (-1)] rfl rfl hb33 (by decide))) (fun v34 w34 hr34 => ?_)
  rw [ex2.1, ex2.2] at hr34
  obtain ⟨rfl, hc34⟩ := hr34
  have q34 := q33.trans0 hc34
  refine TL.move rfl rfl ?_
  refine TL.extract rfl rfl rfl ?_
  refine TL.extract rfl rfl rfl ?_
  refine TL.assign rfl rfl ?_
  refine TL.assign rfl rfl ?_
  refine TL.done ?_
  refine Thn.go ?_
  refine TC.seq ?_
  refine TC.region ?_
  refine TL.call can14 rfl rfl (fn14 [97, 98] w34) (fun v38 w38 hr38 => ?_)
  obtain ⟨rfl, hc38⟩ := hr38
  refine TL.buildSlice [.tmp 38] sl22 rfl rfl rfl (by decide) (by first | simp [Value.cells]; done | simp [Value.cells, cl_len]; done) rfl (fun w39 hb39 hc39 hz39 => ?_)
  have q39 : Ch [] w w39 := (q34.trans0 hc38).trans0 hc39
  refine TL.call can10 rfl rfl (fn10 _ [wordP [97, 98]] w39 (h.ch0 q39) (one_i in0) (recsOf [wordP [97, 98]] rfl rfl hb39 (by decide))) (fun v40 w40 hr40 => ?_)
  rw [ex3.1, ex3.2] at hr40
  obtain ⟨rfl, hc40⟩ := hr40
  have q40 := q39.trans0 hc40
  refine TL.move rfl rfl ?_
  refine TL.extract rfl rfl rfl ?_
  refine TL.extract rfl rfl rfl ?_
  refine TL.assign rfl rfl ?_
  refine TL.assign rfl rfl ?_
  refine TL.done ?_
  refine Thn.go ?_
  refine TC.seq ?_
  refine TC.region ?_
  refine TL.call can14 rfl rfl (fn14 [97, 0] w40) (fun v44 w44 hr44 => ?_)
  obtain ⟨rfl, hc44⟩ := hr44
  refine TL.buildSlice [.tmp 44] sl22 rfl rfl rfl (by decide) (by first | simp [Value.cells]; done | simp [Value.cells, cl_len]; done) rfl (fun w45 hb45 hc45 hz45 => ?_)
  have q45 : Ch [] w w45 := (q40.trans0 hc44).trans0 hc45
  refine TL.call can10 rfl rfl (fn10 _ [wordP [97, 0]] w45 (h.ch0 q45) (one_i in0) (recsOf [wordP [97, 0]] rfl rfl hb45 (by decide))) (fun v46 w46 hr46 => ?_)
  rw [ex4.1, ex4.2] at hr46
  obtain ⟨rfl, hc46⟩ := hr46
  have q46 := q45.trans0 hc46
  refine TL.move rfl rfl ?_
  refine TL.extract rfl rfl rfl ?_
  refine TL.extract rfl rfl rfl ?_
  refine TL.assign rfl rfl ?_
  refine TL.assign rfl rfl ?_
  refine TL.done ?_
  refine Thn.go ?_
  refine TC.seq ?_
  refine TC.region ?_
  refine TL.move rfl rfl ?_
  refine TL.eqlStr rfl rfl rfl ?_
  refine TL.yes (rfl) ?_
  refine TL.move rfl rfl ?_
  refine TL.guardYes (d := 51) rfl rfl rfl ?_
  refine TL.move rfl rfl ?_
  refine TL.guardYes (d := 51) rfl rfl rfl ?_
  refine TL.eqlStr rfl rfl rfl ?_
  refine TL.yes (rfl) ?_
  refine TL.pickT rfl rfl rfl rfl ?_
  refine TL.move rfl rfl ?_
  refine TL.guardYes (d := 55) rfl rfl rfl ?_
  refine TL.move rfl rfl ?_
  refine TL.guardYes (d := 55) rfl rfl rfl ?_
  refine TL.eqlStr rfl rfl rfl ?_
  refine TL.yes (rfl) ?_
  refine TL.pickT rfl rfl rfl rfl ?_
  refine TL.move rfl rfl ?_
  refine TL.guardYes (d := 59) rfl rfl rfl ?_
  refine TL.move rfl rfl ?_
  refine TL.guardYes (d := 59) rfl rfl rfl ?_
  refine TL.eqlStr rfl rfl rfl ?_
  refine TL.yes (rfl) ?_
  refine TL.pickT rfl rfl rfl rfl ?_
  refine TL.assign rfl rfl ?_
  refine TL.done ?_
  refine Thn.go ?_
  refine TC.seq ?_
  refine TC.region ?_
  refine TL.call can15 rfl rfl (fn15 [97, 255] (by decide) w46) (fun v64 w64 hr64 => ?_)
  rw [ex5.1, decide_eq_true ex5.2] at hr64
  obtain ⟨rfl, hc64⟩ := hr64
  refine TL.move rfl rfl ?_
  refine TL.extract rfl rfl rfl ?_
  refine TL.extract rfl rfl rfl ?_
  refine TL.assign rfl rfl ?_
  refine TL.assign rfl rfl ?_
  refine TL.done ?_
  refine Thn.go ?_
  refine TC.seq ?_
  refine TC.region ?_
  refine TL.call can15 rfl rfl (fn15 [255] (by decide) w64) (fun v68 w68 hr68 => ?_)
  rw [ex6.1, decide_eq_false ex6.2] at hr68
  obtain ⟨rfl, hc68⟩ := hr68
  have q68 := (q46.trans0 hc64).trans0 hc68
  refine TL.move rfl rfl ?_
  refine TL.extract rfl rfl rfl ?_
  refine TL.extract rfl rfl rfl ?_
  refine TL.assign rfl rfl ?_
  refine TL.assign rfl rfl ?_
  refine TL.done ?_
  refine Thn.go ?_
  refine TC.seq ?_
  refine TC.region ?_
  refine TL.call can14 rfl rfl (fn14 [97] w68) (fun v71 w71 hr71 => ?_)
  obtain ⟨rfl, hc71⟩ := hr71
  refine TL.buildSlice [.tmp 71] sl22 rfl rfl rfl (by decide) (by first | simp [Value.cells]; done | simp [Value.cells, cl_len]; done) rfl (fun w72 hb72 hc72 hz72 => ?_)
  have q72 : Ch [] w w72 := (q68.trans0 hc71).trans0 hc72
  refine TL.call can14 rfl rfl (fn14 [97] w72) (fun v73 w73 hr73 => ?_)
  obtain ⟨rfl, hc73⟩ := hr73
  refine TL.call can13 rfl rfl (fn13 1 w73) (fun v74 w74 hr74 => ?_)
  obtain ⟨rfl, hc74⟩ := hr74
  refine TL.buildSlice [.tmp 73, .tmp 74] sl22 rfl rfl rfl (by decide) (by first | simp [Value.cells]; done | simp [Value.cells, cl_len]; done) rfl (fun w75 hb75 hc75 hz75 => ?_)
  have k75 : Ch [] w72 w75 := (hc73.trans0 hc74).trans0 hc75
  have q75 := q72.trans0 k75
  refine TL.call can11 rfl rfl (fn11 _ _ [wordP [97]] [wordP [97], numP 1] w75 ((recsOf [wordP [97]] rfl rfl hb72 (by decide)).ch0 k75) (recsOf [wordP [97], numP 1] rfl rfl hb75 (by decide))) (fun v76 w76 hr76 => ?_)
  rw [decide_eq_true ex7] at hr76
  obtain ⟨rfl, hc76⟩ := hr76
  have q76 := q75.trans0 hc76
  refine TL.move rfl rfl ?_
  refine TL.guardYes (d := 77) rfl rfl rfl ?_
  refine TL.call can13 rfl rfl (fn13 7 w76) (fun v78 w78 hr78 => ?_)
  obtain ⟨rfl, hc78⟩ := hr78
  refine TL.guardYes (d := 77) rfl rfl rfl ?_
  refine TL.buildSlice [.tmp 78] sl22 rfl rfl rfl (by decide) (by first | simp [Value.cells]; done | simp [Value.cells, cl_len]; done) rfl (fun w79 hb79 hc79 hz79 => ?_)
  have q79 : Ch [] w w79 := (q76.trans0 hc78).trans0 hc79
  refine TL.guardYes (d := 77) rfl rfl rfl ?_
  refine TL.call can14 rfl rfl (fn14 [97] w79) (fun v80 w80 hr80 => ?_)
  obtain ⟨rfl, hc80⟩ := hr80
  refine TL.guardYes (d := 77) rfl rfl rfl ?_
  refine TL.buildSlice [.tmp 80] sl22 rfl rfl rfl (by decide) (by first | simp [Value.cells]; done | simp [Value.cells, cl_len]; done) rfl (fun w81 hb81 hc81 hz81 => ?_)
  have k81 : Ch [] w79 w81 := hc80.trans0 hc81
  have q81 := q79.trans0 k81
  refine TL.guardYes (d := 77) rfl rfl rfl ?_
  refine TL.call can11 rfl rfl (fn11 _ _ [numP 7] [wordP [97]] w81 ((recsOf [numP 7] rfl rfl hb79 (by decide)).ch0 k81) (recsOf [wordP [97]] rfl rfl hb81 (by decide))) (fun v82 w82 hr82 => ?_)
  rw [decide_eq_true ex8] at hr82
  obtain ⟨rfl, hc82⟩ := hr82
  have q82 := q81.trans0 hc82
  refine TL.pickT rfl rfl rfl rfl ?_
  refine TL.move rfl rfl ?_
  refine TL.guardYes (d := 84) rfl rfl rfl ?_
  refine TL.move rfl rfl ?_
  refine TL.guardYes (d := 84) rfl rfl rfl ?_
  refine TL.eqlStr rfl rfl rfl ?_
  refine TL.yes (rfl) ?_
  refine TL.pickT rfl rfl rfl rfl ?_
  refine TL.move rfl rfl ?_
  refine TL.guardYes (d := 88) rfl rfl rfl ?_
  refine TL.move rfl rfl ?_
  refine TL.pickT rfl rfl rfl rfl ?_
  refine TL.move rfl rfl ?_
  refine TL.guardYes (d := 91) rfl rfl rfl ?_
  refine TL.move rfl rfl ?_
  refine TL.guardYes (d := 91) rfl rfl rfl ?_
  refine TL.not rfl rfl ?_
  refine TL.pickT rfl rfl rfl rfl ?_
  refine TL.assign rfl rfl ?_
  refine TL.done ?_
  refine Thn.go ?_
  refine TC.seq ?_
  refine TC.region ?_
  refine TL.buildSlice [.const (Value.string {data := #[1, 2]}), .const (Value.string {data := #[2, 97]}), .const (Value.string {data := #[2, 97, 0, 2]}), .const (Value.string {data := #[3]}), .const (Value.string {data := #[2, 97, 0]})] sl34 rfl rfl rfl (by decide) (by first | simp [Value.cells]; done | simp [Value.cells, cl_len]; done) rfl (fun w95 hb95 hc95 hz95 => ?_)
  have q95 : Ch [] w w95 := q82.trans0 hc95
  have rdB : Rd w95 (.slice (some ⟨w82.heap.size, 0, none⟩) 5 5) 1 5 (badL.map str) := Rd.ofFlat (sz := 1) (vs := badL.map str) (m := 5) hb95 (by simp [Value.cells]) rfl (by decide)
  refine TL.assign rfl rfl ?_
  refine TL.done ?_
  refine Thn.go ?_
  refine TC.seq ?_
  refine TC.seq ?_
  refine TC.region ?_
  refine TL.assign rfl rfl ?_
  refine TL.done ?_
  refine Thn.go ?_
  refine TC.block ?_
  refine TC.loop1 (fun (k : Nat) => [(9, .bool true), (14, .bool true), (15, .slice (some ⟨w82.heap.size, 0, none⟩) 5 5), (16, .int .i64 (k : Int))]) (fun k w' => k ≤ 5 ∧ Ch [] w95 w') (fun k => 5 - k) 0 (by repeat (first | exact trivial | refine ⟨rfl, ?_⟩)) (⟨by omega, Ch.refl _ _⟩) (fun k w' hH => ?_)
  obtain ⟨hk, hch⟩ := hH
  refine TC.seq ?_
  refine TC.seq ?_
  refine TC.region ?_
  refine TL.move rfl rfl ?_
  refine TL.move rfl rfl ?_
  refine TL.lenSlice Tryd.underlying34 rfl rfl ?_
  refine TL.lss rfl rfl rfl ?_
  refine TL.done ?_
  refine Thn.go ?_
  refine TC.condP rfl (fun h1 => ?_) (fun h1 => ?_)
  ·
    have hkl : k < badL.length := by show k < 5; omega
    obtain ⟨he, hl⟩ := bad_e _ (List.getElem_mem hkl)
    refine TC.skip ?_
    refine Thn.go ?_
    refine TC.seq ?_
    refine TC.block ?_
    refine TC.seq ?_
    refine TC.region ?_
    refine TL.move rfl rfl ?_
    refine TL.move rfl rfl ?_
    refine TL.indexAddr (k) sl34 rfl rfl (by first | rfl | omega) (by omega) rfl ?_
    refine TL.load pl9 rfl ((rdB.ch0 hch).eltIn hkl) rfl ?_
    refine TL.call can16 rfl rfl (fn16 badL[k] hl w' (h.ch0 (q95.trans0 hch))) (fun v107 w107 hr107 => ?_)
    rw [he] at hr107
    obtain ⟨o, rfl, _, hc107⟩ := hr107
    refine TL.move rfl rfl ?_
    refine TL.extract rfl rfl rfl ?_
    refine TL.extract rfl rfl rfl ?_
    refine TL.assign rfl rfl ?_
    refine TL.assign rfl rfl ?_
    refine TL.done ?_
    refine Thn.go ?_
    refine TC.seq ?_
    refine TC.region ?_
    refine TL.move rfl rfl ?_
    refine TL.neq rfl rfl rfl ?_
    refine TL.no (by decide) ?_
    refine TL.done ?_
    refine Thn.go ?_
    refine TC.condF rfl rfl ?_
    refine TC.skip ?_
    refine Blk.go ?_
    refine Thn.go ?_
    refine TC.region ?_
    refine TL.move rfl rfl ?_
    refine TL.add_i64 rfl rfl (by omega) (by omega) rfl ?_
    refine TL.assign rfl rfl ?_
    refine TL.done ?_
    refine Lp.go (k + 1) (by repeat (first | exact trivial | refine ⟨rfl, ?_⟩)) ?_ (by first | omega | (dsimp only; omega))
    exact ⟨by omega, hch.trans0 hc107⟩
  ·
    have q99 := q95.trans0 hch
    refine TC.exit ?_
    refine Thn.exit ?_
    refine Lp.exit ?_
    refine Blk.hit ?_
    refine Thn.go ?_
    refine TC.seq ?_
    refine TC.region ?_
    refine TL.makeSlice (9) sl22 rfl rfl (rfl) (by decide) (by decide) rfl (fun w113 hv113 hc113 hz113 => ?_)
    rw [made9] at hv113
    have q113 : Ch [] w w113 := q99.trans0 hc113
    have rd113 : Rd w113 (.slice (some ⟨w'.heap.size, 0, none⟩) 9 9) 3 (List.replicate 9 zeroP).length ((List.replicate 9 zeroP).flatMap cl) := Rd.ofOwn hv113
    refine TL.call can10 rfl rfl (fn10 _ (List.replicate 9 zeroP) w113 (h.ch0 q113) (fun p hp => by rw [(List.mem_replicate.1 hp).2]; exact in0) rd113) (fun v114 w114 hr114 => ?_)
    rw [ex9] at hr114
    obtain ⟨rfl, hc114⟩ := hr114
    have q114 := q113.trans0 hc114
    refine TL.move rfl rfl ?_
    refine TL.extract rfl rfl rfl ?_
    refine TL.extract rfl rfl rfl ?_
    refine TL.assign rfl rfl ?_
    refine TL.assign rfl rfl ?_
    refine TL.done ?_
    refine Thn.go ?_
    refine TC.seq ?_
    refine TC.region ?_
    refine TL.buildRec [0, 2] [.const (Value.int IntKind.u8 1), .const (Value.string {data := #[120]})] (cl ⟨1, 0, [120]⟩) rfl rfl (by kernel_rfl) rfl ?_
    refine TL.buildSlice [.tmp 118] sl22 rfl rfl rfl (by decide) (by first | simp [Value.cells]; done | simp [Value.cells, cl_len]; done) rfl (fun w119 hb119 hc119 hz119 => ?_)
    have q119 : Ch [] w w119 := q114.trans0 hc119
    refine TL.call can10 rfl rfl (fn10 _ [⟨1, 0, [120]⟩] w119 (h.ch0 q119) (one_i in0) (recsOf [⟨1, 0, [120]⟩] rfl rfl hb119 (by decide))) (fun v120 w120 hr120 => ?_)
    rw [ex10] at hr120
    obtain ⟨rfl, hc120⟩ := hr120
    have q120 := q119.trans0 hc120
    refine TL.move rfl rfl ?_
    refine TL.extract rfl rfl rfl ?_
    refine TL.extract rfl rfl rfl ?_
    refine TL.assign rfl rfl ?_
    refine TL.assign rfl rfl ?_
    refine TL.done ?_
    refine Thn.go ?_
    refine TC.seq ?_
    refine TC.region ?_
    refine TL.makeSlice (200) sl37 rfl rfl (rfl) (by decide) (by decide) rfl (fun w124 hv124 hc124 hz124 => ?_)
    rw [made200] at hv124
    have rd124 : Rd w124 (.slice (some ⟨w120.heap.size, 0, none⟩) 200 200) 1 (List.replicate 200 (0 : UInt8)).length ((List.replicate 200 (0 : UInt8)).map u8) := Rd.ofOwn hv124
    refine TL.bytesToStr (l := List.replicate 200 0) Tryd.underlying37 Tryd.underlying5 Tryd.underlying9 rfl rd124 rfl ?_
    refine TL.call can14 rfl rfl (fn14 (List.replicate 200 0) w124) (fun v126 w126 hr126 => ?_)
    obtain ⟨rfl, hc126⟩ := hr126
    refine TL.buildSlice [.tmp 126] sl22 rfl rfl rfl (by decide) (by first | simp [Value.cells]; done | simp [Value.cells, cl_len]; done) rfl (fun w127 hb127 hc127 hz127 => ?_)
    have q127 : Ch [] w w127 := ((q120.trans0 hc124).trans0 hc126).trans0 hc127
    refine TL.call can10 rfl rfl (fn10 _ [wordP (List.replicate 200 0)] w127 (h.ch0 q127) (one_i in0) (recsOf [wordP (List.replicate 200 0)] rfl rfl hb127 (by decide))) (fun v128 w128 hr128 => ?_)
    rw [ex11] at hr128
    obtain ⟨rfl, hc128⟩ := hr128
    have q128 := q127.trans0 hc128
    refine TL.move rfl rfl ?_
    refine TL.extract rfl rfl rfl ?_
    refine TL.extract rfl rfl rfl ?_
    refine TL.assign rfl rfl ?_
    refine TL.assign rfl rfl ?_
    refine TL.done ?_
    refine Thn.go ?_
    refine TC.seq ?_
    refine TC.region ?_
    refine TL.move rfl rfl ?_
    refine TL.guardYes (d := 131) rfl rfl rfl ?_
    refine TL.call can9 rfl rfl (fn9 w128 (h.ch0 q128)) (fun v132 w132 hr132 => ?_)
    obtain ⟨rfl, hc132⟩ := hr132
    refine TL.pickT rfl rfl rfl rfl ?_
    refine TL.move rfl rfl ?_
    refine TL.guardYes (d := 134) rfl rfl rfl ?_
    refine TL.move rfl rfl ?_
    refine TL.pickT rfl rfl rfl rfl ?_
    refine TL.move rfl rfl ?_
    refine TL.guardYes (d := 137) rfl rfl rfl ?_
    refine TL.move rfl rfl ?_
    refine TL.pickT rfl rfl rfl rfl ?_
    refine TL.move rfl rfl ?_
    refine TL.guardYes (d := 140) rfl rfl rfl ?_
    refine TL.move rfl rfl ?_
    refine TL.guardYes (d := 140) rfl rfl rfl ?_
    refine TL.eql rfl rfl rfl ?_
    refine TL.yes (rfl) ?_
    refine TL.pickT rfl rfl rfl rfl ?_
    refine TL.move rfl rfl ?_
    refine TL.guardYes (d := 144) rfl rfl rfl ?_
    refine TL.move rfl rfl ?_
    refine TL.guardYes (d := 144) rfl rfl rfl ?_
    refine TL.eql rfl rfl rfl ?_
    refine TL.yes (rfl) ?_
    refine TL.pickT rfl rfl rfl rfl ?_
    refine TL.move rfl rfl ?_
    refine TL.guardYes (d := 148) rfl rfl rfl ?_
    refine TL.move rfl rfl ?_
    refine TL.guardYes (d := 148) rfl rfl rfl ?_
    refine TL.eql rfl rfl rfl ?_
    refine TL.yes (rfl) ?_
    refine TL.pickT rfl rfl rfl rfl ?_
    refine TL.assign rfl rfl ?_
    refine TL.done ?_
    refine Thn.go ?_
    refine TC.ret ?_
    refine Ends.ret [0] rfl rfl ?_
    exact ⟨rfl, q128.trans0 hc132⟩

