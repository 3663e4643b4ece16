/-
  Walks through the given program: each theorem fnN says what the call of function N of the translation hands back, for all arguments that its premises describe, and that nothing that was there has turned.
-/
import Derived.Test.YtilnoklpikblgaaE12
namespace Go.Proofs.Ytilnoklpikblgaa
open Go.Lane
theorem can23 : Callable Try.prog 23 := ⟨Try.f23, Try.func23, by kernel_rfl, rfl⟩
/-- The entry that takes 'a' away. -/
def goneE (k : List UInt8) (q : Int) : En.Entry := ⟨k, [], q, true⟩
def nm (a b : Value) : List Row := [(a, [ofE [97] 1, ofE [98] 2]), (b, [goneE [97] 3])]
theorem nm_all (a b : Value) : En.allE ((nm a b).map (·.2)) = 0 ∧ En.allL ((nm a b).map (·.2)) = [goneE [97] 3, ofE [97] 1, ofE [98] 2] := En.all_ok (by show ¬ 64 < 2; decide) (show En.rowsE [[ofE [97] 1, ofE [98] 2], [goneE [97] 3]] = 0 by decide +kernel) (show ¬ 16384 < 3 by decide) (show List.Perm _ ([[ofE [97] 1, ofE [98] 2], [goneE [97] 3]] : List (List En.Entry)).flatten by decide +kernel) (by decide +kernel)
theorem nm_live2 (a b : Value) : En.liveE ((nm a b).map (·.2)) 2 = 0 ∧ En.liveL ((nm a b).map (·.2)) 2 = [ofE [97] 1, ofE [98] 2] := by
  obtain ⟨h1, h2⟩ := nm_all a b
  obtain ⟨h3, h4⟩ := En.live_ok (q := 2) h1 (by decide)
  exact ⟨h3, by rw [h4, h2]; decide +kernel⟩
theorem nm_live3 (a b : Value) : En.liveE ((nm a b).map (·.2)) 3 = 0 ∧ En.liveL ((nm a b).map (·.2)) 3 = [ofE [98] 2] := by
  obtain ⟨h1, h2⟩ := nm_all a b
  obtain ⟨h3, h4⟩ := En.live_ok (q := 3) h1 (by decide)
  exact ⟨h3, by rw [h4, h2]; decide +kernel⟩
def nl : List En.Entry := [ofE [97] 3, ofE [97] 2, ofE [97] 1, goneE [98] 1]
theorem nm_clash (a b : Value) : En.allE ([(a, [ofE [97] 1]), (b, [ofE [97] 1])].map (·.2)) = 100 ∧ En.allL ([(a, [ofE [97] 1]), (b, [ofE [97] 1])].map (·.2)) = [] := En.all_clash (by show ¬ 64 < 2; decide) (show En.rowsE [[ofE [97] 1], [ofE [97] 1]] = 0 by decide +kernel) (show ¬ 16384 < 2 by decide) (show ¬ En.Untied ([[ofE [97] 1], [ofE [97] 1]] : List (List En.Entry)).flatten by decide +kernel)

theorem fn8 (w : World) : Rets Try.prog 8 #[] w (fun v w' => v = .bool true ∧ Ch [] w w') := by
  have e46 : En.thinE nl 2 = 0 := by decide +kernel
  have f46 : En.thinL nl 2 false = [ofE [97] 3, ofE [97] 2, goneE [98] 1] := by decide +kernel
  have f51 : En.thinL nl 2 true = [ofE [97] 3, ofE [97] 2] := by decide +kernel
  have e67 : En.thinE [ofE [98] 1, ofE [97] 1] 1 = 100 := by decide +kernel
  refine Rets.of (n := 152) (vs := []) Try.func8 rfl rfl rfl ?_
  refine TC.seq ?_
  refine TC.region ?_
  refine TL.assign rfl rfl ?_
  refine TL.done ?_
  refine Thn.go ?_
  refine TC.seq ?_
  refine TC.region ?_
  refine TL.call can24 rfl rfl (fn24 [97] 1 w) (fun v23 w23 hr23 => ?_)
  obtain ⟨rfl, hc23⟩ := hr23
  refine TL.call can24 rfl rfl (fn24 [98] 2 w23) (fun v24 w24 hr24 => ?_)
  obtain ⟨rfl, hc24⟩ := hr24
  refine TL.buildSlice [.tmp 23, .tmp 24] sl25 rfl rfl rfl (by decide) (by first | simp [Value.cells]; done | simp [Value.cells, cl_len]; done) rfl (fun w25 hb25 hc25 hz25 => ?_)
  have r25 : Rd w25 (.slice (some ⟨w24.heap.size, 0, none⟩) 2 2) 4 2 ([ofE [97] 1, ofE [98] 2].flatMap cl) := Rd.ofFlat (vs := [.agg (cl (ofE [97] 1)).toArray, .agg (cl (ofE [98] 2)).toArray]) hb25 (by simp [Value.cells, cl_len]) rfl (by decide)
  refine TL.buildRec [0, 2, 3] [.const (.string ⟨#[97]⟩), .const (.int .i64 3), .const (.bool true)] (cl (goneE [97] 3)) rfl rfl (by kernel_rfl) rfl ?_
  refine TL.buildSlice [.tmp 26] sl25 rfl rfl rfl (by decide) (by first | simp [Value.cells]; done | simp [Value.cells, cl_len]; done) rfl (fun w27 hb27 hc27 hz27 => ?_)
  have r27 : Rd w27 (.slice (some ⟨w25.heap.size, 0, none⟩) 1 1) 4 1 ([goneE [97] 3].flatMap cl) := recOne (x := goneE [97] 3) hb27
  refine TL.buildSlice [.tmp 25, .tmp 27] sl22 rfl rfl rfl (by decide) (by first | simp [Value.cells]; done | simp [Value.cells, cl_len]; done) rfl (fun w28 hb28 hc28 hz28 => ?_)
  have r28 : Rd w28 (.slice (some ⟨w27.heap.size, 0, none⟩) 2 2) 1 2 (vals (nm (.slice (some ⟨w24.heap.size, 0, none⟩) 2 2) (.slice (some ⟨w25.heap.size, 0, none⟩) 1 1))) := Rd.ofFlat (vs := vals (nm (.slice (some ⟨w24.heap.size, 0, none⟩) 2 2) (.slice (some ⟨w25.heap.size, 0, none⟩) 1 1))) hb28 (by simp [nm, vals, Value.cells]) rfl (by decide)
  have q28 : Ch [] w w28 := hc23.trans0 (hc24.trans0 (hc25.trans0 (hc27.trans0 hc28)))
  have rr : ∀ p ∈ nm (.slice (some ⟨w24.heap.size, 0, none⟩) 2 2) (.slice (some ⟨w25.heap.size, 0, none⟩) 1 1), Rd w28 p.1 4 p.2.length (p.2.flatMap cl) := fun p hp => by simp only [nm, List.mem_cons, List.not_mem_nil, or_false] at hp; rcases hp with rfl | rfl; exact r25.ch0 (hc27.trans0 hc28); exact r27.ch0 hc28
  refine TL.assign rfl rfl ?_
  refine TL.done ?_
  refine Thn.go ?_
  refine TC.seq ?_
  refine TC.region ?_
  refine TL.move rfl rfl ?_
  refine TL.call can17 rfl rfl (fn17 _ (nm (.slice (some ⟨w24.heap.size, 0, none⟩) 2 2) (.slice (some ⟨w25.heap.size, 0, none⟩) 1 1)) 2 w28 r28 rr (by show (3 : Nat) ≤ 2000000; decide)) (fun v31 w31 hr31 => ?_)
  rw [(nm_live2 _ _).1, (nm_live2 _ _).2] at hr31
  obtain ⟨o31, rfl, hv31, hc31⟩ := hr31
  refine TL.move rfl rfl ?_
  refine TL.extract rfl rfl rfl ?_
  refine TL.extract rfl rfl rfl ?_
  refine TL.assign rfl rfl ?_
  refine TL.assign rfl rfl ?_
  refine TL.done ?_
  refine Thn.go ?_
  refine TC.seq ?_
  refine TC.region ?_
  refine TL.move rfl rfl ?_
  refine TL.call can17 rfl rfl (fn17 _ (nm (.slice (some ⟨w24.heap.size, 0, none⟩) 2 2) (.slice (some ⟨w25.heap.size, 0, none⟩) 1 1)) 3 w31 (r28.ch0 hc31) (fun p hp => (rr p hp).ch0 hc31) (by show (3 : Nat) ≤ 2000000; decide)) (fun v36 w36 hr36 => ?_)
  rw [(nm_live3 _ _).1, (nm_live3 _ _).2] at hr36
  obtain ⟨o36, rfl, hv36, hc36⟩ := hr36
  refine TL.move rfl rfl ?_
  refine TL.extract rfl rfl rfl ?_
  refine TL.extract rfl rfl rfl ?_
  refine TL.assign rfl rfl ?_
  refine TL.assign rfl rfl ?_
  refine TL.done ?_
  refine Thn.go ?_
  refine TC.seq ?_
  refine TC.region ?_
  refine TL.call can24 rfl rfl (fn24 [97] 3 w36) (fun v39 w39 hr39 => ?_)
  obtain ⟨rfl, hc39⟩ := hr39
  refine TL.call can24 rfl rfl (fn24 [97] 2 w39) (fun v40 w40 hr40 => ?_)
  obtain ⟨rfl, hc40⟩ := hr40
  refine TL.call can24 rfl rfl (fn24 [97] 1 w40) (fun v41 w41 hr41 => ?_)
  obtain ⟨rfl, hc41⟩ := hr41
  refine TL.buildRec [0, 2, 3] [.const (.string ⟨#[98]⟩), .const (.int .i64 1), .const (.bool true)] (cl (goneE [98] 1)) rfl rfl (by kernel_rfl) rfl ?_
  refine TL.buildSlice [.tmp 39, .tmp 40, .tmp 41, .tmp 42] sl25 rfl rfl rfl (by decide) (by first | simp [Value.cells]; done | simp [Value.cells, cl_len]; done) rfl (fun w43 hb43 hc43 hz43 => ?_)
  have r43 : Rd w43 (.slice (some ⟨w41.heap.size, 0, none⟩) 4 4) 4 4 (nl.flatMap cl) := Rd.ofFlat (vs := [.agg (cl (ofE [97] 3)).toArray, .agg (cl (ofE [97] 2)).toArray, .agg (cl (ofE [97] 1)).toArray, .agg (cl (goneE [98] 1)).toArray]) hb43 (by simp [Value.cells, cl_len]) rfl (by decide)
  have q43 : Ch [] w31 w43 := hc36.trans0 (hc39.trans0 (hc40.trans0 (hc41.trans0 hc43)))
  refine TL.assign rfl rfl ?_
  refine TL.done ?_
  refine Thn.go ?_
  refine TC.seq ?_
  refine TC.region ?_
  refine TL.move rfl rfl ?_
  refine TL.call can21 rfl rfl (fn21 _ nl 2 false w43 r43) (fun v46 w46 hr46 => ?_)
  rw [e46, f46] at hr46
  obtain ⟨o46, rfl, hv46, hc46⟩ := hr46
  refine TL.move rfl rfl ?_
  refine TL.extract rfl rfl rfl ?_
  refine TL.extract rfl rfl rfl ?_
  refine TL.assign rfl rfl ?_
  refine TL.assign rfl rfl ?_
  refine TL.done ?_
  refine Thn.go ?_
  refine TC.seq ?_
  refine TC.region ?_
  refine TL.move rfl rfl ?_
  refine TL.call can21 rfl rfl (fn21 _ nl 2 true w46 (r43.ch0 hc46)) (fun v51 w51 hr51 => ?_)
  rw [e46, f51] at hr51
  obtain ⟨o51, rfl, hv51, hc51⟩ := hr51
  refine TL.move rfl rfl ?_
  refine TL.extract rfl rfl rfl ?_
  refine TL.extract rfl rfl rfl ?_
  refine TL.assign rfl rfl ?_
  refine TL.assign rfl rfl ?_
  refine TL.done ?_
  refine Thn.go ?_
  refine TC.seq ?_
  refine TC.region ?_
  refine TL.call can24 rfl rfl (fn24 [97] 1 w51) (fun v55 w55 hr55 => ?_)
  obtain ⟨rfl, hc55⟩ := hr55
  refine TL.buildSlice [.tmp 55] sl25 rfl rfl rfl (by decide) (by first | simp [Value.cells]; done | simp [Value.cells, cl_len]; done) rfl (fun w56 hb56 hc56 hz56 => ?_)
  have r56 : Rd w56 (.slice (some ⟨w55.heap.size, 0, none⟩) 1 1) 4 1 ([ofE [97] 1].flatMap cl) := recOne (x := ofE [97] 1) hb56
  refine TL.call can24 rfl rfl (fn24 [97] 1 w56) (fun v57 w57 hr57 => ?_)
  obtain ⟨rfl, hc57⟩ := hr57
  refine TL.buildSlice [.tmp 57] sl25 rfl rfl rfl (by decide) (by first | simp [Value.cells]; done | simp [Value.cells, cl_len]; done) rfl (fun w58 hb58 hc58 hz58 => ?_)
  have r58 : Rd w58 (.slice (some ⟨w57.heap.size, 0, none⟩) 1 1) 4 1 ([ofE [97] 1].flatMap cl) := recOne (x := ofE [97] 1) hb58
  refine TL.buildSlice [.tmp 56, .tmp 58] sl22 rfl rfl rfl (by decide) (by first | simp [Value.cells]; done | simp [Value.cells, cl_len]; done) rfl (fun w59 hb59 hc59 hz59 => ?_)
  refine TL.call can12 rfl rfl (fn12 _ [(.slice (some ⟨w55.heap.size, 0, none⟩) 1 1, [ofE [97] 1]), (.slice (some ⟨w57.heap.size, 0, none⟩) 1 1, [ofE [97] 1])] w59 (Rd.ofFlat (vs := vals [(.slice (some ⟨w55.heap.size, 0, none⟩) 1 1, [ofE [97] 1]), (.slice (some ⟨w57.heap.size, 0, none⟩) 1 1, [ofE [97] 1])]) hb59 (by simp [vals, Value.cells]) rfl (by decide)) (fun p hp => by simp only [List.mem_cons, List.not_mem_nil, or_false] at hp; rcases hp with rfl | rfl; exact r56.ch0 (hc57.trans0 (hc58.trans0 hc59)); exact r58.ch0 hc59) (by show (2 : Nat) ≤ 2000000; decide)) (fun v60 w60 hr60 => ?_)
  rw [(nm_clash _ _).1, (nm_clash _ _).2] at hr60
  obtain ⟨o60, rfl, hv60, hc60⟩ := hr60
  have q60 : Ch [] w51 w60 := hc55.trans0 (hc56.trans0 (hc57.trans0 (hc58.trans0 (hc59.trans0 hc60))))
  refine TL.move rfl rfl ?_
  refine TL.extract rfl rfl rfl ?_
  refine TL.extract rfl rfl rfl ?_
  refine TL.assign rfl rfl ?_
  refine TL.assign rfl rfl ?_
  refine TL.done ?_
  refine Thn.go ?_
  refine TC.seq ?_
  refine TC.region ?_
  refine TL.call can24 rfl rfl (fn24 [98] 1 w60) (fun v64 w64 hr64 => ?_)
  obtain ⟨rfl, hc64⟩ := hr64
  refine TL.call can24 rfl rfl (fn24 [97] 1 w64) (fun v65 w65 hr65 => ?_)
  obtain ⟨rfl, hc65⟩ := hr65
  refine TL.buildSlice [.tmp 64, .tmp 65] sl25 rfl rfl rfl (by decide) (by first | simp [Value.cells]; done | simp [Value.cells, cl_len]; done) rfl (fun w66 hb66 hc66 hz66 => ?_)
  refine TL.call can21 rfl rfl (fn21 _ [ofE [98] 1, ofE [97] 1] 1 true w66 (Rd.ofFlat (vs := [.agg (cl (ofE [98] 1)).toArray, .agg (cl (ofE [97] 1)).toArray]) hb66 (by simp [Value.cells, cl_len]) rfl (by decide))) (fun v67 w67 hr67 => ?_)
  rw [e67] at hr67
  obtain ⟨o67, rfl, _, hc67⟩ := hr67
  have q67 : Ch [] w60 w67 := hc64.trans0 (hc65.trans0 (hc66.trans0 hc67))
  refine TL.move rfl rfl ?_
  refine TL.extract rfl rfl rfl ?_
  refine TL.extract rfl rfl rfl ?_
  refine TL.assign rfl rfl ?_
  refine TL.assign rfl rfl ?_
  refine TL.done ?_
  refine Thn.go ?_
  refine TC.seq ?_
  refine TC.region ?_
  refine TL.assign rfl rfl ?_
  refine TL.done ?_
  refine Thn.go ?_
  refine TC.seq ?_
  refine TC.region ?_
  refine TL.buildRec [] [] ([.slice none 0 0, .bool false]) rfl rfl (by kernel_rfl) rfl ?_
  refine TL.box rfl rfl (fun w71 hb71 hc71 hz71 => ?_)
  refine TL.assign rfl rfl ?_
  refine TL.done ?_
  refine Thn.go ?_
  refine TC.seq ?_
  refine TC.region ?_
  refine TL.move rfl rfl ?_
  refine TL.call can23 rfl rfl (fn23nil w71) (fun v74 w74 hr74 => ?_)
  obtain ⟨rfl, hc74⟩ := hr74
  refine TL.move rfl rfl ?_
  refine TL.extract rfl rfl rfl ?_
  refine TL.extract rfl rfl rfl ?_
  refine TL.extract rfl rfl rfl ?_
  refine TL.alloc ze32 rfl (fun w17 hb17 hc17 hz17 => ?_)
  refine TL.store sz32 rfl rfl rfl hb17 (by simp [Value.cells]) (by simpa [Value.cells] using cl_one e0) (.inl rfl) (fun ws1 hbs1 hcs1 hzs1 => ?_)
  have q17 : Ch [] w71 ws1 := hc74.trans0 (hc17.then1 hcs1 (Nat.le_refl _))
  refine TL.assign rfl rfl ?_
  refine TL.assign rfl rfl ?_
  refine TL.done ?_
  refine Thn.go ?_
  refine TC.seq ?_
  refine TC.region ?_
  refine TL.move rfl rfl ?_
  refine TL.call can23 rfl rfl (fn23zero w67.heap.size ws1 (Has.ch0 (show Has w71 w67.heap.size #[.slice none 0 0, .bool false] 51 (0, 0) from hb71) q17)) (fun v80 w80 hr80 => ?_)
  obtain ⟨rfl, hc80⟩ := hr80
  refine TL.move rfl rfl ?_
  refine TL.extract rfl rfl rfl ?_
  refine TL.extract rfl rfl rfl ?_
  refine TL.extract rfl rfl rfl ?_
  refine TL.alloc ze32 rfl (fun w20 hb20 hc20 hz20 => ?_)
  refine TL.store sz32 rfl rfl rfl hb20 (by simp [Value.cells]) (by simpa [Value.cells] using cl_one e0) (.inl rfl) (fun ws2 hbs2 hcs2 hzs2 => ?_)
  have q20 : Ch [] ws1 ws2 := hc80.trans0 (hc20.then1 hcs2 (Nat.le_refl _))
  refine TL.assign rfl rfl ?_
  refine TL.assign rfl rfl ?_
  refine TL.done ?_
  refine Thn.go ?_
  refine TC.seq ?_
  refine TC.regionH (fun w4 => Ch [] ws2 w4) mixed0 ?_
  have hS : (fun w4 => Ch [] ws2 w4) _ := Ch.drew [] _
  refine TH.take (i := 0) rfl rfl rfl rfl rfl (by kernel_rfl) (by kernel_rfl) (by kernel_rfl) hS (fun w2 hw2 => TL.move rfl rfl (TL.done ⟨rfl, rfl⟩)) ?_
  refine TH.oneG (i := 1) (dj := 84) (by kernel_rfl) rfl rfl rfl rfl ?_
  refine TL.call can10 rfl rfl (fn10 _) (fun v85 w85 hr85 => ?_)
  obtain ⟨rfl, hc85⟩ := hr85
  have hS : (fun w4 => Ch [] ws2 w4) _ := Ch.trans0 hS hc85
  refine TL.done ⟨hS, ?_⟩
  refine TH.take (i := 2) rfl rfl rfl rfl rfl (by kernel_rfl) (by kernel_rfl) (by kernel_rfl) hS (fun w2 hw2 => TL.pickT rfl rfl rfl rfl (TL.done ⟨rfl, rfl⟩)) ?_
  refine TH.take (i := 3) rfl rfl rfl rfl rfl (by kernel_rfl) (by kernel_rfl) (by kernel_rfl) hS (fun w2 hw2 => TL.move rfl rfl (TL.done ⟨rfl, rfl⟩)) ?_
  refine TH.takeG (i := 4) (dj := 87) rfl rfl rfl rfl rfl rfl (by kernel_rfl) (by kernel_rfl) (by kernel_rfl) hS (fun w2 hw2 => TL.move rfl rfl (TL.done ⟨rfl, rfl⟩)) ?_
  refine TH.takeG (i := 5) (dj := 87) rfl rfl rfl rfl rfl rfl (by kernel_rfl) (by kernel_rfl) (by kernel_rfl) hS (fun w2 hw2 => TL.eql rfl rfl rfl (TL.done ⟨rfl, rfl⟩)) ?_
  refine TH.yes (rfl) ?_
  refine TH.take (i := 6) rfl rfl rfl rfl rfl (by kernel_rfl) (by kernel_rfl) (by kernel_rfl) hS (fun w2 hw2 => TL.pickT rfl rfl rfl rfl (TL.done ⟨rfl, rfl⟩)) ?_
  refine TH.take (i := 7) rfl rfl rfl rfl rfl (by kernel_rfl) (by kernel_rfl) (by kernel_rfl) hS (fun w2 hw2 => TL.move rfl rfl (TL.done ⟨rfl, rfl⟩)) ?_
  refine TH.takeG (i := 8) (dj := 91) rfl rfl rfl rfl rfl rfl (by kernel_rfl) (by kernel_rfl) (by kernel_rfl) hS (fun w2 hw2 => TL.move rfl rfl (TL.done ⟨rfl, rfl⟩)) ?_
  refine TH.oneG (i := 9) (dj := 91) (by kernel_rfl) rfl rfl rfl rfl ?_
  refine TL.call can24 rfl rfl (fn24 [97] 1 _) (fun v93 w93 hr93 => ?_)
  obtain ⟨rfl, hc93⟩ := hr93
  have hS : (fun w4 => Ch [] ws2 w4) _ := Ch.trans0 hS hc93
  refine TL.done ⟨hS, ?_⟩
  refine TH.oneG (i := 10) (dj := 91) (by kernel_rfl) rfl rfl rfl rfl ?_
  refine TL.call can24 rfl rfl (fn24 [98] 2 _) (fun v94 w94 hr94 => ?_)
  obtain ⟨rfl, hc94⟩ := hr94
  have hS : (fun w4 => Ch [] ws2 w4) _ := Ch.trans0 hS hc94
  refine TL.done ⟨hS, ?_⟩
  refine TH.oneG (i := 11) (dj := 91) (by kernel_rfl) rfl rfl rfl rfl ?_
  refine TL.buildSlice [.tmp 93, .tmp 94] sl25 rfl rfl rfl (by decide) (by first | simp [Value.cells]; done | simp [Value.cells, cl_len]; done) rfl (fun w95 hb95 hc95 hz95 => ?_)
  have r95 : Rd w95 (.slice (some ⟨w94.heap.size, 0, none⟩) 2 2) 4 2 ([ofE [97] 1, ofE [98] 2].flatMap cl) := Rd.ofFlat (vs := [.agg (cl (ofE [97] 1)).toArray, .agg (cl (ofE [98] 2)).toArray]) hb95 (by simp [Value.cells, cl_len]) rfl (by decide)
  have q71 : Ch [] w60 ws2 := q67.trans0 ((Ch.trans0 hc71 q17).trans0 q20)
  have k31 : Ch [] w31 ws2 := q43.trans0 (hc46.trans0 (hc51.trans0 (q60.trans0 q71)))
  have hS : (fun w4 => Ch [] ws2 w4) _ := Ch.trans0 hS hc95
  refine TL.done ⟨hS, ?_⟩
  refine TH.oneG (i := 12) (dj := 91) (by kernel_rfl) rfl rfl rfl rfl ?_
  refine TL.call can13 rfl rfl (fn13 _ _ [ofE [97] 1, ofE [98] 2] [ofE [97] 1, ofE [98] 2] _ (Rd.ofOwn ((hv31.ch0 k31).ch0 hS)) r95) (fun v96 w96 hr96 => ?_)
  obtain ⟨rfl, hc96⟩ := hr96
  have hS : (fun w4 => Ch [] ws2 w4) _ := Ch.trans0 hS hc96
  refine TL.done ⟨hS, ?_⟩
  refine TH.yes (rfl) ?_
  refine TH.take (i := 13) rfl rfl rfl rfl rfl (by kernel_rfl) (by kernel_rfl) (by kernel_rfl) hS (fun w2 hw2 => TL.pickT rfl rfl rfl rfl (TL.done ⟨rfl, rfl⟩)) ?_
  refine TH.take (i := 14) rfl rfl rfl rfl rfl (by kernel_rfl) (by kernel_rfl) (by kernel_rfl) hS (fun w2 hw2 => TL.move rfl rfl (TL.done ⟨rfl, rfl⟩)) ?_
  refine TH.takeG (i := 15) (dj := 98) rfl rfl rfl rfl rfl rfl (by kernel_rfl) (by kernel_rfl) (by kernel_rfl) hS (fun w2 hw2 => TL.move rfl rfl (TL.done ⟨rfl, rfl⟩)) ?_
  refine TH.takeG (i := 16) (dj := 98) rfl rfl rfl rfl rfl rfl (by kernel_rfl) (by kernel_rfl) (by kernel_rfl) hS (fun w2 hw2 => TL.eql rfl rfl rfl (TL.done ⟨rfl, rfl⟩)) ?_
  refine TH.yes (rfl) ?_
  refine TH.take (i := 17) rfl rfl rfl rfl rfl (by kernel_rfl) (by kernel_rfl) (by kernel_rfl) hS (fun w2 hw2 => TL.pickT rfl rfl rfl rfl (TL.done ⟨rfl, rfl⟩)) ?_
  refine TH.take (i := 18) rfl rfl rfl rfl rfl (by kernel_rfl) (by kernel_rfl) (by kernel_rfl) hS (fun w2 hw2 => TL.move rfl rfl (TL.done ⟨rfl, rfl⟩)) ?_
  refine TH.takeG (i := 19) (dj := 102) rfl rfl rfl rfl rfl rfl (by kernel_rfl) (by kernel_rfl) (by kernel_rfl) hS (fun w2 hw2 => TL.move rfl rfl (TL.done ⟨rfl, rfl⟩)) ?_
  refine TH.oneG (i := 20) (dj := 102) (by kernel_rfl) rfl rfl rfl rfl ?_
  refine TL.call can24 rfl rfl (fn24 [98] 2 _) (fun v104 w104 hr104 => ?_)
  obtain ⟨rfl, hc104⟩ := hr104
  have hS : (fun w4 => Ch [] ws2 w4) _ := Ch.trans0 hS hc104
  refine TL.done ⟨hS, ?_⟩
  refine TH.oneG (i := 21) (dj := 102) (by kernel_rfl) rfl rfl rfl rfl ?_
  refine TL.buildSlice [.tmp 104] sl25 rfl rfl rfl (by decide) (by first | simp [Value.cells]; done | simp [Value.cells, cl_len]; done) rfl (fun w105 hb105 hc105 hz105 => ?_)
  have k36 : Ch [] w36 ws2 := (hc39.trans0 (hc40.trans0 (hc41.trans0 hc43))).trans0 (hc46.trans0 (hc51.trans0 (q60.trans0 q71)))
  have hS : (fun w4 => Ch [] ws2 w4) _ := Ch.trans0 hS hc105
  refine TL.done ⟨hS, ?_⟩
  refine TH.oneG (i := 22) (dj := 102) (by kernel_rfl) rfl rfl rfl rfl ?_
  refine TL.call can13 rfl rfl (fn13 _ _ [ofE [98] 2] [ofE [98] 2] _ (Rd.ofOwn ((hv36.ch0 k36).ch0 hS)) (recOne (x := ofE [98] 2) hb105)) (fun v106 w106 hr106 => ?_)
  obtain ⟨rfl, hc106⟩ := hr106
  have k51 : Ch [] w51 ws2 := q60.trans0 q71
  have k46 : Ch [] w46 ws2 := hc51.trans0 k51
  have k43 : Ch [] w43 ws2 := hc46.trans0 k46
  have hS : (fun w4 => Ch [] ws2 w4) _ := Ch.trans0 hS hc106
  refine TL.done ⟨hS, ?_⟩
  refine TH.yes (rfl) ?_
  refine TH.take (i := 23) rfl rfl rfl rfl rfl (by kernel_rfl) (by kernel_rfl) (by kernel_rfl) hS (fun w2 hw2 => TL.pickT rfl rfl rfl rfl (TL.done ⟨rfl, rfl⟩)) ?_
  refine TH.take (i := 24) rfl rfl rfl rfl rfl (by kernel_rfl) (by kernel_rfl) (by kernel_rfl) hS (fun w2 hw2 => TL.move rfl rfl (TL.done ⟨rfl, rfl⟩)) ?_
  refine TH.takeG (i := 25) (dj := 108) rfl rfl rfl rfl rfl rfl (by kernel_rfl) (by kernel_rfl) (by kernel_rfl) hS (fun w2 hw2 => TL.move rfl rfl (TL.done ⟨rfl, rfl⟩)) ?_
  refine TH.takeG (i := 26) (dj := 108) rfl rfl rfl rfl rfl rfl (by kernel_rfl) (by kernel_rfl) (by kernel_rfl) hS (fun w2 hw2 => TL.eql rfl rfl rfl (TL.done ⟨rfl, rfl⟩)) ?_
  refine TH.yes (rfl) ?_
  refine TH.take (i := 27) rfl rfl rfl rfl rfl (by kernel_rfl) (by kernel_rfl) (by kernel_rfl) hS (fun w2 hw2 => TL.pickT rfl rfl rfl rfl (TL.done ⟨rfl, rfl⟩)) ?_
  refine TH.take (i := 28) rfl rfl rfl rfl rfl (by kernel_rfl) (by kernel_rfl) (by kernel_rfl) hS (fun w2 hw2 => TL.move rfl rfl (TL.done ⟨rfl, rfl⟩)) ?_
  refine TH.takeG (i := 29) (dj := 112) rfl rfl rfl rfl rfl rfl (by kernel_rfl) (by kernel_rfl) (by kernel_rfl) hS (fun w2 hw2 => TL.move rfl rfl (TL.done ⟨rfl, rfl⟩)) ?_
  refine TH.takeG (i := 30) (dj := 112) rfl rfl rfl rfl rfl rfl (by kernel_rfl) (by kernel_rfl) (by kernel_rfl) hS (fun w2 hw2 => TL.move rfl rfl (TL.done ⟨rfl, rfl⟩)) ?_
  refine TH.takeG (i := 31) (dj := 112) rfl rfl rfl rfl rfl rfl (by kernel_rfl) (by kernel_rfl) (by kernel_rfl) hS (fun w2 hw2 => TL.indexAddr (0) sl25 rfl rfl (by first | rfl | omega) (by omega) rfl (TL.done ⟨rfl, rfl⟩)) ?_
  refine TH.takeG (i := 32) (dj := 112) rfl rfl rfl rfl rfl rfl (by kernel_rfl) (by kernel_rfl) (by kernel_rfl) hS (fun w2 hw2 => TL.loadAgg (cl (ofE [97] 3)) ag32 rfl rfl (fun j hj => by obtain ⟨b', o', e, hh⟩ := recAt (l := nl) (i := 0) ((r43.ch0 k43).ch0 hw2) (by decide); cases e; exact hh j hj) rfl (TL.done ⟨rfl, rfl⟩)) ?_
  refine TH.takeG (i := 33) (dj := 112) rfl rfl rfl rfl rfl rfl (by kernel_rfl) (by kernel_rfl) (by kernel_rfl) hS (fun w2 hw2 => TL.move rfl rfl (TL.done ⟨rfl, rfl⟩)) ?_
  refine TH.takeG (i := 34) (dj := 112) rfl rfl rfl rfl rfl rfl (by kernel_rfl) (by kernel_rfl) (by kernel_rfl) hS (fun w2 hw2 => TL.indexAddr (1) sl25 rfl rfl (by first | rfl | omega) (by omega) rfl (TL.done ⟨rfl, rfl⟩)) ?_
  refine TH.takeG (i := 35) (dj := 112) rfl rfl rfl rfl rfl rfl (by kernel_rfl) (by kernel_rfl) (by kernel_rfl) hS (fun w2 hw2 => TL.loadAgg (cl (ofE [97] 2)) ag32 rfl rfl (fun j hj => by obtain ⟨b', o', e, hh⟩ := recAt (l := nl) (i := 1) ((r43.ch0 k43).ch0 hw2) (by decide); cases e; exact hh j hj) rfl (TL.done ⟨rfl, rfl⟩)) ?_
  refine TH.takeG (i := 36) (dj := 112) rfl rfl rfl rfl rfl rfl (by kernel_rfl) (by kernel_rfl) (by kernel_rfl) hS (fun w2 hw2 => TL.move rfl rfl (TL.done ⟨rfl, rfl⟩)) ?_
  refine TH.takeG (i := 37) (dj := 112) rfl rfl rfl rfl rfl rfl (by kernel_rfl) (by kernel_rfl) (by kernel_rfl) hS (fun w2 hw2 => TL.indexAddr (3) sl25 rfl rfl (by first | rfl | omega) (by omega) rfl (TL.done ⟨rfl, rfl⟩)) ?_
  refine TH.takeG (i := 38) (dj := 112) rfl rfl rfl rfl rfl rfl (by kernel_rfl) (by kernel_rfl) (by kernel_rfl) hS (fun w2 hw2 => TL.loadAgg (cl (goneE [98] 1)) ag32 rfl rfl (fun j hj => by obtain ⟨b', o', e, hh⟩ := recAt (l := nl) (i := 3) ((r43.ch0 k43).ch0 hw2) (by decide); cases e; exact hh j hj) rfl (TL.done ⟨rfl, rfl⟩)) ?_
  refine TH.oneG (i := 39) (dj := 112) (by kernel_rfl) rfl rfl rfl rfl ?_
  refine TL.buildSlice [.tmp 116, .tmp 119, .tmp 122] sl25 rfl rfl rfl (by decide) (by first | simp [Value.cells]; done | simp [Value.cells, cl_len]; done) rfl (fun w123 hb123 hc123 hz123 => ?_)
  have r123 : Rd w123 (.slice (some ⟨w106.heap.size, 0, none⟩) 3 3) 4 3 ([ofE [97] 3, ofE [97] 2, goneE [98] 1].flatMap cl) := Rd.ofFlat (vs := [.agg (cl (ofE [97] 3)).toArray, .agg (cl (ofE [97] 2)).toArray, .agg (cl (goneE [98] 1)).toArray]) hb123 (by simp [Value.cells, cl_len]) rfl (by decide)
  have hS : (fun w4 => Ch [] ws2 w4) _ := Ch.trans0 hS hc123
  refine TL.done ⟨hS, ?_⟩
  refine TH.oneG (i := 40) (dj := 112) (by kernel_rfl) rfl rfl rfl rfl ?_
  refine TL.call can13 rfl rfl (fn13 _ _ [ofE [97] 3, ofE [97] 2, goneE [98] 1] [ofE [97] 3, ofE [97] 2, goneE [98] 1] _ (Rd.ofOwn ((hv46.ch0 k46).ch0 hS)) r123) (fun v124 w124 hr124 => ?_)
  obtain ⟨rfl, hc124⟩ := hr124
  have hS : (fun w4 => Ch [] ws2 w4) _ := Ch.trans0 hS hc124
  refine TL.done ⟨hS, ?_⟩
  refine TH.yes (rfl) ?_
  refine TH.take (i := 41) rfl rfl rfl rfl rfl (by kernel_rfl) (by kernel_rfl) (by kernel_rfl) hS (fun w2 hw2 => TL.pickT rfl rfl rfl rfl (TL.done ⟨rfl, rfl⟩)) ?_
  refine TH.take (i := 42) rfl rfl rfl rfl rfl (by kernel_rfl) (by kernel_rfl) (by kernel_rfl) hS (fun w2 hw2 => TL.move rfl rfl (TL.done ⟨rfl, rfl⟩)) ?_
  refine TH.takeG (i := 43) (dj := 126) rfl rfl rfl rfl rfl rfl (by kernel_rfl) (by kernel_rfl) (by kernel_rfl) hS (fun w2 hw2 => TL.move rfl rfl (TL.done ⟨rfl, rfl⟩)) ?_
  refine TH.takeG (i := 44) (dj := 126) rfl rfl rfl rfl rfl rfl (by kernel_rfl) (by kernel_rfl) (by kernel_rfl) hS (fun w2 hw2 => TL.eql rfl rfl rfl (TL.done ⟨rfl, rfl⟩)) ?_
  refine TH.yes (rfl) ?_
  refine TH.take (i := 45) rfl rfl rfl rfl rfl (by kernel_rfl) (by kernel_rfl) (by kernel_rfl) hS (fun w2 hw2 => TL.pickT rfl rfl rfl rfl (TL.done ⟨rfl, rfl⟩)) ?_
  refine TH.take (i := 46) rfl rfl rfl rfl rfl (by kernel_rfl) (by kernel_rfl) (by kernel_rfl) hS (fun w2 hw2 => TL.move rfl rfl (TL.done ⟨rfl, rfl⟩)) ?_
  refine TH.takeG (i := 47) (dj := 130) rfl rfl rfl rfl rfl rfl (by kernel_rfl) (by kernel_rfl) (by kernel_rfl) hS (fun w2 hw2 => TL.move rfl rfl (TL.done ⟨rfl, rfl⟩)) ?_
  refine TH.takeG (i := 48) (dj := 130) rfl rfl rfl rfl rfl rfl (by kernel_rfl) (by kernel_rfl) (by kernel_rfl) hS (fun w2 hw2 => TL.move rfl rfl (TL.done ⟨rfl, rfl⟩)) ?_
  refine TH.takeG (i := 49) (dj := 130) rfl rfl rfl rfl rfl rfl (by kernel_rfl) (by kernel_rfl) (by kernel_rfl) hS (fun w2 hw2 => TL.sliceTo (2) sl25 rfl rfl (by first | rfl | omega) (by omega) rfl (TL.done ⟨rfl, rfl⟩)) ?_
  refine TH.oneG (i := 50) (dj := 130) (by kernel_rfl) rfl rfl rfl rfl ?_
  refine TL.call can13 rfl rfl (fn13 _ _ [ofE [97] 3, ofE [97] 2] [ofE [97] 3, ofE [97] 2] _ (Rd.ofOwn ((hv51.ch0 k51).ch0 hS)) (prefixRd (l := nl) (i := 2) ((r43.ch0 k43).ch0 hS) (by decide))) (fun v134 w134 hr134 => ?_)
  obtain ⟨rfl, hc134⟩ := hr134
  have hS : (fun w4 => Ch [] ws2 w4) _ := Ch.trans0 hS hc134
  refine TL.done ⟨hS, ?_⟩
  refine TH.yes (rfl) ?_
  refine TH.take (i := 51) rfl rfl rfl rfl rfl (by kernel_rfl) (by kernel_rfl) (by kernel_rfl) hS (fun w2 hw2 => TL.pickT rfl rfl rfl rfl (TL.done ⟨rfl, rfl⟩)) ?_
  refine TH.take (i := 52) rfl rfl rfl rfl rfl (by kernel_rfl) (by kernel_rfl) (by kernel_rfl) hS (fun w2 hw2 => TL.move rfl rfl (TL.done ⟨rfl, rfl⟩)) ?_
  refine TH.takeG (i := 53) (dj := 136) rfl rfl rfl rfl rfl rfl (by kernel_rfl) (by kernel_rfl) (by kernel_rfl) hS (fun w2 hw2 => TL.move rfl rfl (TL.done ⟨rfl, rfl⟩)) ?_
  refine TH.takeG (i := 54) (dj := 136) rfl rfl rfl rfl rfl rfl (by kernel_rfl) (by kernel_rfl) (by kernel_rfl) hS (fun w2 hw2 => TL.eql rfl rfl rfl (TL.done ⟨rfl, rfl⟩)) ?_
  refine TH.yes (rfl) ?_
  refine TH.take (i := 55) rfl rfl rfl rfl rfl (by kernel_rfl) (by kernel_rfl) (by kernel_rfl) hS (fun w2 hw2 => TL.pickT rfl rfl rfl rfl (TL.done ⟨rfl, rfl⟩)) ?_
  refine TH.take (i := 56) rfl rfl rfl rfl rfl (by kernel_rfl) (by kernel_rfl) (by kernel_rfl) hS (fun w2 hw2 => TL.move rfl rfl (TL.done ⟨rfl, rfl⟩)) ?_
  refine TH.takeG (i := 57) (dj := 140) rfl rfl rfl rfl rfl rfl (by kernel_rfl) (by kernel_rfl) (by kernel_rfl) hS (fun w2 hw2 => TL.move rfl rfl (TL.done ⟨rfl, rfl⟩)) ?_
  refine TH.takeG (i := 58) (dj := 140) rfl rfl rfl rfl rfl rfl (by kernel_rfl) (by kernel_rfl) (by kernel_rfl) hS (fun w2 hw2 => TL.eql rfl rfl rfl (TL.done ⟨rfl, rfl⟩)) ?_
  refine TH.yes (rfl) ?_
  refine TH.take (i := 59) rfl rfl rfl rfl rfl (by kernel_rfl) (by kernel_rfl) (by kernel_rfl) hS (fun w2 hw2 => TL.pickT rfl rfl rfl rfl (TL.done ⟨rfl, rfl⟩)) ?_
  refine TH.take (i := 60) rfl rfl rfl rfl rfl (by kernel_rfl) (by kernel_rfl) (by kernel_rfl) hS (fun w2 hw2 => TL.move rfl rfl (TL.done ⟨rfl, rfl⟩)) ?_
  refine TH.takeG (i := 61) (dj := 144) rfl rfl rfl rfl rfl rfl (by kernel_rfl) (by kernel_rfl) (by kernel_rfl) hS (fun w2 hw2 => TL.move rfl rfl (TL.done ⟨rfl, rfl⟩)) ?_
  refine TH.takeG (i := 62) (dj := 144) rfl rfl rfl rfl rfl rfl (by kernel_rfl) (by kernel_rfl) (by kernel_rfl) hS (fun w2 hw2 => TL.eql rfl rfl rfl (TL.done ⟨rfl, rfl⟩)) ?_
  refine TH.yes (rfl) ?_
  refine TH.take (i := 63) rfl rfl rfl rfl rfl (by kernel_rfl) (by kernel_rfl) (by kernel_rfl) hS (fun w2 hw2 => TL.pickT rfl rfl rfl rfl (TL.done ⟨rfl, rfl⟩)) ?_
  refine TH.take (i := 64) rfl rfl rfl rfl rfl (by kernel_rfl) (by kernel_rfl) (by kernel_rfl) hS (fun w2 hw2 => TL.move rfl rfl (TL.done ⟨rfl, rfl⟩)) ?_
  refine TH.takeG (i := 65) (dj := 148) rfl rfl rfl rfl rfl rfl (by kernel_rfl) (by kernel_rfl) (by kernel_rfl) hS (fun w2 hw2 => TL.move rfl rfl (TL.done ⟨rfl, rfl⟩)) ?_
  refine TH.takeG (i := 66) (dj := 148) rfl rfl rfl rfl rfl rfl (by kernel_rfl) (by kernel_rfl) (by kernel_rfl) hS (fun w2 hw2 => TL.eql rfl rfl rfl (TL.done ⟨rfl, rfl⟩)) ?_
  refine TH.yes (rfl) ?_
  refine TH.take (i := 67) rfl rfl rfl rfl rfl (by kernel_rfl) (by kernel_rfl) (by kernel_rfl) hS (fun w2 hw2 => TL.pickT rfl rfl rfl rfl (TL.done ⟨rfl, rfl⟩)) ?_
  refine TH.take (i := 68) rfl rfl rfl rfl rfl (by kernel_rfl) (by kernel_rfl) (by kernel_rfl) hS (fun w2 hw2 => TL.assign rfl rfl (TL.done ⟨rfl, rfl⟩)) ?_
  refine TH.done (by kernel_rfl) ?_
  refine Thn.go ?_
  refine TC.ret ?_
  refine Ends.ret [0] rfl rfl ?_
  exact ⟨rfl, q28.trans0 (hc31.trans0 (q43.trans0 (hc46.trans0 (k46.trans0 hS))))⟩

