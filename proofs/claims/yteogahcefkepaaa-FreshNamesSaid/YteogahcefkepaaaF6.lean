/-
  Walks through the given program: each theorem fnN says what the call of function N of the translation hands back, for all arguments that its premises describe, and that nothing that was there has turned.
-/
import Derived.Test.YteogahcefkepaaaF5
namespace Go.Proofs.Yteogahcefkepaaa
open Go.Lane
theorem can11 : Callable Try.prog 11 := ⟨Try.f11, Try.func11, by kernel_rfl, rfl⟩
theorem can13 : Callable Try.prog 13 := ⟨Try.f13, Try.func13, by kernel_rfl, rfl⟩
theorem can15 : Callable Try.prog 15 := ⟨Try.f15, Try.func15, by kernel_rfl, rfl⟩
theorem can16 : Callable Try.prog 16 := ⟨Try.f16, Try.func16, by kernel_rfl, rfl⟩
theorem can17 : Callable Try.prog 17 := ⟨Try.f17, Try.func17, by kernel_rfl, rfl⟩
theorem can22 : Callable Try.prog 22 := ⟨Try.f22, Try.func22, by kernel_rfl, rfl⟩
/-- The entry of the examples. -/
def ofE (k : List UInt8) (q : Int) : En.Entry := ⟨k, [], q, false⟩
/-- A new row's block is none of an old one's. -/
theorem Own.older {wA wB : World} {bA bB s1 s2 n1 n2 : Nat} {e1 e2 : TypeId} {v1 v2 : Value} {c1 c2 : List Value} (h1 : Own wA bA e1 s1 v1 n1 c1) (hs : wA.heap.size ≤ bB) (h2 : Own wB bB e2 s2 v2 n2 c2) : ∀ k, v1.ownBlock = some k → k ∉ blk v2 := fun k hk hm => by
  have := h1.lt k hk
  have := h2.ge k (by simpa [blk] using hm)
  omega

theorem fn20 (w : World) : Rets Try.prog 20 #[] w (fun v w' => v = .bool true ∧ Ch [] w w') := by
  have e10 : En.putE [ofE [97] 1] (ofE [97] 2) = 0 := by decide +kernel
  have f10 : En.putL [ofE [97] 1] (ofE [97] 2) = [ofE [97] 2, ofE [97] 1] := by decide +kernel
  have e15 : En.findE [ofE [97] 2, ofE [97] 1] [97] 1 = 0 := by decide +kernel
  have f15 : En.findX [ofE [97] 2, ofE [97] 1] [97] 1 = some (ofE [97] 1) := by decide +kernel
  refine Rets.of (n := 45) (vs := []) Try.func20 rfl rfl rfl ?_
  refine TC.seq ?_
  refine TC.region ?_
  refine TL.assign rfl rfl ?_
  refine TL.done ?_
  refine Thn.go ?_
  refine TC.seq ?_
  refine TC.region ?_
  refine TL.call can22 rfl rfl (fn22 [97] 1 w) (fun v7 w7 hr7 => ?_)
  obtain ⟨rfl, hc7⟩ := hr7
  refine TL.buildSlice [.tmp 7] sl22 rfl rfl rfl (by decide) (by first | simp [Value.cells]; done | simp [Value.cells, cl_len]; done) rfl (fun w8 hb8 hc8 hz8 => ?_)
  refine TL.call can22 rfl rfl (fn22 [97] 2 w8) (fun v9 w9 hr9 => ?_)
  obtain ⟨rfl, hc9⟩ := hr9
  refine TL.call can16 rfl rfl (fn16 _ [ofE [97] 1] (ofE [97] 2) w9 ((recOne (x := ofE [97] 1) hb8).ch0 hc9)) (fun v10 w10 hr10 => ?_)
  rw [e10, f10] at hr10
  obtain ⟨o10, rfl, hv10, hc10⟩ := hr10
  have q10 : Ch [] w w10 := hc7.trans0 (hc8.trans0 (hc9.trans0 hc10))
  obtain ⟨g10, c10, rfl⟩ := hv10.form (by decide)
  refine TL.move rfl rfl ?_
  refine TL.extract rfl rfl rfl ?_
  refine TL.extract rfl rfl rfl ?_
  refine TL.assign rfl rfl ?_
  refine TL.assign rfl rfl ?_
  refine TL.done ?_
  refine Thn.go ?_
  refine TC.seq ?_
  refine TC.region ?_
  refine TL.move rfl rfl ?_
  refine TL.call can17 rfl rfl (fn17 _ [ofE [97] 2, ofE [97] 1] [97] 1 w10 (Rd.ofOwn hv10)) (fun v15 w15 hr15 => ?_)
  rw [e15, f15] at hr15
  obtain ⟨rfl, hc15⟩ := hr15
  refine TL.move rfl rfl ?_
  refine TL.extract rfl rfl rfl ?_
  refine TL.extract rfl rfl rfl ?_
  refine TL.extract rfl rfl rfl ?_
  refine TL.alloc ze30 rfl (fun w3 hb3 hc3 hz3 => ?_)
  refine TL.store sz30 rfl rfl rfl hb3 (by simp [Value.cells]) (by simpa [Value.cells] using cl_one (ofE [97] 1)) (.inl rfl) (fun ws1 hbs1 hcs1 hzs1 => ?_)
  replace hbs1 : Has ws1 w15.heap.size (cl (ofE [97] 1)).toArray 30 (0, 0) := hbs1.setAll rfl
  have k3 : Ch [] w10 ws1 := hc15.trans0 (hc3.then1 hcs1 (Nat.le_refl _))
  refine TL.assign rfl rfl ?_
  refine TL.assign rfl rfl ?_
  refine TL.done ?_
  refine Thn.go ?_
  refine TC.seq ?_
  refine TC.region ?_
  refine TL.move rfl rfl ?_
  refine TL.eql rfl rfl rfl ?_
  refine TL.yes (rfl) ?_
  refine TL.move rfl rfl ?_
  refine TL.guardYes (d := 21) rfl rfl rfl ?_
  refine TL.move rfl rfl ?_
  refine TL.guardYes (d := 21) rfl rfl rfl ?_
  refine TL.eql rfl rfl rfl ?_
  refine TL.yes (rfl) ?_
  refine TL.pickT rfl rfl rfl rfl ?_
  refine TL.move rfl rfl ?_
  refine TL.guardYes (d := 25) rfl rfl rfl ?_
  refine TL.move rfl rfl ?_
  refine TL.pickT rfl rfl rfl rfl ?_
  refine TL.move rfl rfl ?_
  refine TL.guardYes (d := 28) rfl rfl rfl ?_
  refine TL.fieldAddr fd30k2 rfl rfl ?_
  refine TL.guardYes (d := 28) rfl rfl rfl ?_
  refine TL.load pl3 rfl (hbs1.cell 2) rfl ?_
  refine TL.guardYes (d := 28) rfl rfl rfl ?_
  refine TL.eql rfl rfl rfl ?_
  refine TL.yes (rfl) ?_
  refine TL.pickT rfl rfl rfl rfl ?_
  refine TL.move rfl rfl ?_
  refine TL.guardYes (d := 33) rfl rfl rfl ?_
  refine TL.move rfl rfl ?_
  refine TL.guardYes (d := 33) rfl rfl rfl ?_
  refine TL.lenSlice Try.underlying22 rfl rfl ?_
  refine TL.guardYes (d := 33) rfl rfl rfl ?_
  refine TL.eql rfl rfl rfl ?_
  refine TL.yes (rfl) ?_
  refine TL.pickT rfl rfl rfl rfl ?_
  refine TL.move rfl rfl ?_
  refine TL.guardYes (d := 38) rfl rfl rfl ?_
  refine TL.move rfl rfl ?_
  refine TL.guardYes (d := 38) rfl rfl rfl ?_
  refine TL.indexAddr (0) sl22 rfl rfl rfl (by decide) rfl ?_
  refine TL.guardYes (d := 38) rfl rfl rfl ?_
  refine TL.fieldAddr fd30k2 rfl rfl ?_
  refine TL.guardYes (d := 38) rfl rfl rfl ?_
  refine TL.load pl3 rfl ((show _ = some (Value.int .i64 2) from by obtain ⟨b', o', e, hh⟩ := recAt (i := 0) (l := [ofE [97] 2, ofE [97] 1]) ((Rd.ofOwn hv10).ch0 k3) (by decide); cases e; exact hh 2 (by decide))) rfl ?_
  refine TL.guardYes (d := 38) rfl rfl rfl ?_
  refine TL.eql rfl rfl rfl ?_
  refine TL.yes (rfl) ?_
  refine TL.pickT rfl rfl rfl rfl ?_
  refine TL.assign rfl rfl ?_
  refine TL.done ?_
  refine Thn.go ?_
  refine TC.ret ?_
  refine Ends.ret [0] rfl rfl ?_
  exact ⟨rfl, q10.trans0 k3⟩

theorem fn4 (av : Value) (l : List En.Entry) (x : En.Entry) (k : List UInt8) (q : Int) (w : World) (ha : Rd w av 4 l.length (l.flatMap cl)) : Rets Try.prog 4 #[av, .agg (cl x).toArray, str k, .int .i64 q] w (fun r w' => r = .bool true ∧ Ch [] w w') := by
  obtain ⟨ad, c, rfl, _⟩ := ha.shape
  have hmm : maxLen = 9223372036854775807 := rfl
  refine Rets.of (n := 113) (vs := [_, _, _, _]) Try.func4 rfl rfl rfl ?_
  refine TC.seq ?_
  refine TC.region ?_
  refine TL.box rfl rfl (fun w5 hb5 hc5 hz5 => ?_)
  have hbx : ∀ w2, Ch [] w5 w2 → ∀ q, q < 4 → w2.cell? ⟨w.heap.size, 0 + q, none⟩ = (cl x)[q]? := fun w2 h2 q _ => by rw [(hb5.ch0 h2).cell, Nat.zero_add]; simp [Value.cells]
  refine TL.assign rfl rfl ?_
  refine TL.done ?_
  refine Thn.go ?_
  refine TC.seq ?_
  refine TC.regionBool (d := 38) (p := ((300 < l.length ∧ l.length < 4096) ∨ 5000 < l.length ∨ 10000 < k.length)) (fun K1 hK1 => ?_) ?_
  ·
    refine TL.move rfl rfl ?_
    refine TL.lenSlice Try.underlying22 rfl rfl ?_
    refine TL.gtr rfl rfl rfl ?_
    refine TL.em (fun e23 => ?_) (fun e23 => ?_)
    ·
      refine TL.move rfl rfl ?_
      refine TL.guardYes (d := 24) rfl rfl rfl ?_
      refine TL.move rfl rfl ?_
      refine TL.guardYes (d := 24) rfl rfl rfl ?_
      refine TL.lenSlice Try.underlying22 rfl rfl ?_
      refine TL.guardYes (d := 24) rfl rfl rfl ?_
      refine TL.lss rfl rfl rfl ?_
      refine TL.em (fun e27 => ?_) (fun e27 => ?_)
      ·
        refine TL.pickT rfl rfl rfl rfl ?_
        refine TL.move rfl rfl ?_
        refine TL.guardNo (d := 29) rfl rfl rfl rfl rfl ?_
        refine TL.guardNo (d := 29) rfl rfl rfl rfl rfl ?_
        refine TL.guardNo (d := 29) rfl rfl rfl rfl rfl ?_
        refine TL.pickT rfl rfl rfl rfl ?_
        refine TL.move rfl rfl ?_
        refine TL.guardNo (d := 34) rfl rfl rfl rfl rfl ?_
        refine TL.guardNo (d := 34) rfl rfl rfl rfl rfl ?_
        refine TL.guardNo (d := 34) rfl rfl rfl rfl rfl ?_
        refine TL.pickT rfl rfl rfl rfl ?_
        refine TL.done ?_
        refine hK1 _ ?_
        refine Le.here rfl (by first | exact decide_eq_true (by omega) | exact decide_eq_false (by omega) | exact decide_eq_decide.2 (by omega) | exact decide_eq_true (by grind) | exact decide_eq_false (by grind) | exact decide_eq_decide.2 (by grind)) ?_
        repeat (first | exact Le.refl _ | refine Le.skip rfl ?_)
      ·
        refine TL.pickT rfl rfl rfl rfl ?_
        refine TL.move rfl rfl ?_
        refine TL.guardYes (d := 29) rfl rfl rfl ?_
        refine TL.move rfl rfl ?_
        refine TL.guardYes (d := 29) rfl rfl rfl ?_
        refine TL.lenSlice Try.underlying22 rfl rfl ?_
        refine TL.guardYes (d := 29) rfl rfl rfl ?_
        refine TL.gtr rfl rfl rfl ?_
        refine TL.em (fun e32 => ?_) (fun e32 => ?_)
        ·
          refine TL.pickF rfl rfl rfl rfl ?_
          refine TL.move rfl rfl ?_
          refine TL.guardNo (d := 34) rfl rfl rfl rfl rfl ?_
          refine TL.guardNo (d := 34) rfl rfl rfl rfl rfl ?_
          refine TL.guardNo (d := 34) rfl rfl rfl rfl rfl ?_
          refine TL.pickT rfl rfl rfl rfl ?_
          refine TL.done ?_
          refine hK1 _ ?_
          refine Le.here rfl (by first | exact decide_eq_true (by omega) | exact decide_eq_false (by omega) | exact decide_eq_decide.2 (by omega) | exact decide_eq_true (by grind) | exact decide_eq_false (by grind) | exact decide_eq_decide.2 (by grind)) ?_
          repeat (first | exact Le.refl _ | refine Le.skip rfl ?_)
        ·
          refine TL.pickF rfl rfl rfl rfl ?_
          refine TL.move rfl rfl ?_
          refine TL.guardYes (d := 34) rfl rfl rfl ?_
          refine TL.move rfl rfl ?_
          refine TL.guardYes (d := 34) rfl rfl rfl ?_
          refine TL.lenStr Try.underlying9 rfl rfl ?_
          refine TL.guardYes (d := 34) rfl rfl rfl ?_
          refine TL.gtr rfl rfl rfl ?_
          refine TL.pickF rfl rfl rfl rfl ?_
          refine TL.done ?_
          refine hK1 _ ?_
          refine Le.here rfl (by first | exact decide_eq_true (by omega) | exact decide_eq_false (by omega) | exact decide_eq_decide.2 (by omega) | exact decide_eq_true (by grind) | exact decide_eq_false (by grind) | exact decide_eq_decide.2 (by grind)) ?_
          repeat (first | exact Le.refl _ | refine Le.skip rfl ?_)
    ·
      refine TL.move rfl rfl ?_
      refine TL.guardNo (d := 24) rfl rfl rfl rfl rfl ?_
      refine TL.guardNo (d := 24) rfl rfl rfl rfl rfl ?_
      refine TL.guardNo (d := 24) rfl rfl rfl rfl rfl ?_
      refine TL.pickF rfl rfl rfl rfl ?_
      refine TL.move rfl rfl ?_
      refine TL.guardYes (d := 29) rfl rfl rfl ?_
      refine TL.move rfl rfl ?_
      refine TL.guardYes (d := 29) rfl rfl rfl ?_
      refine TL.lenSlice Try.underlying22 rfl rfl ?_
      refine TL.guardYes (d := 29) rfl rfl rfl ?_
      refine TL.gtr rfl rfl rfl ?_
      refine TL.em (fun e32 => ?_) (fun e32 => ?_)
      ·
        refine TL.pickF rfl rfl rfl rfl ?_
        refine TL.move rfl rfl ?_
        refine TL.guardNo (d := 34) rfl rfl rfl rfl rfl ?_
        refine TL.guardNo (d := 34) rfl rfl rfl rfl rfl ?_
        refine TL.guardNo (d := 34) rfl rfl rfl rfl rfl ?_
        refine TL.pickT rfl rfl rfl rfl ?_
        refine TL.done ?_
        refine hK1 _ ?_
        refine Le.here rfl (by first | exact decide_eq_true (by omega) | exact decide_eq_false (by omega) | exact decide_eq_decide.2 (by omega) | exact decide_eq_true (by grind) | exact decide_eq_false (by grind) | exact decide_eq_decide.2 (by grind)) ?_
        repeat (first | exact Le.refl _ | refine Le.skip rfl ?_)
      ·
        refine TL.pickF rfl rfl rfl rfl ?_
        refine TL.move rfl rfl ?_
        refine TL.guardYes (d := 34) rfl rfl rfl ?_
        refine TL.move rfl rfl ?_
        refine TL.guardYes (d := 34) rfl rfl rfl ?_
        refine TL.lenStr Try.underlying9 rfl rfl ?_
        refine TL.guardYes (d := 34) rfl rfl rfl ?_
        refine TL.gtr rfl rfl rfl ?_
        refine TL.pickF rfl rfl rfl rfl ?_
        refine TL.done ?_
        refine hK1 _ ?_
        refine Le.here rfl (by first | exact decide_eq_true (by omega) | exact decide_eq_false (by omega) | exact decide_eq_decide.2 (by omega) | exact decide_eq_true (by grind) | exact decide_eq_false (by grind) | exact decide_eq_decide.2 (by grind)) ?_
        repeat (first | exact Le.refl _ | refine Le.skip rfl ?_)
  refine TC.condP rfl (fun h6 => ?_) (fun h6 => ?_)
  ·
    refine TC.seq ?_
    refine TC.region ?_
    refine TL.assign rfl rfl ?_
    refine TL.done ?_
    refine Thn.go ?_
    refine TC.ret ?_
    refine Thn.ret ?_
    refine Ends.ret [8] rfl rfl ?_
    exact ⟨rfl, hc5⟩
  ·
    have hno : ¬ ((300 < l.length ∧ l.length < 4096) ∨ 5000 < l.length ∨ 10000 < k.length) := by assumption
    have hl5 : l.length ≤ 5000 := by omega
    refine TC.skip ?_
    refine Thn.go ?_
    refine TC.seq ?_
    refine TC.region ?_
    refine TL.move rfl rfl ?_
    refine TL.append (base := w5.heap.size) sl22 rfl rfl rfl (World.ownsRow_nil _ _ _ _) (News.ofRd Try.underlying22 (ha.ch0 hc5) (rows_one _)) (by omega) (by omega) (Nat.le_refl _) (fun v40 w40 hv40 hc40 _ => ?_)
    rw [Nat.zero_add, List.nil_append] at hv40
    replace hc40 : Ch [] w5 w40 := hc40
    have q40 := hc5.trans0 hc40
    refine TL.assign rfl rfl ?_
    refine TL.done ?_
    refine Thn.go ?_
    refine TC.seq ?_
    refine TC.region ?_
    refine TL.move rfl rfl ?_
    refine TL.loadAgg (cl x) ag30 rfl rfl (fun q hq => hbx _ hc40 q hq) rfl ?_
    refine TL.call can16 rfl rfl (fn16 _ l x w40 (Rd.ofOwn hv40)) (fun v44 w44 hr44 => ?_)
    obtain ⟨o44, rfl, hv44, hc44⟩ := hr44
    have hpl := En.putL_len l x
    refine TL.move rfl rfl ?_
    refine TL.extract rfl rfl rfl ?_
    refine TL.extract rfl rfl rfl ?_
    refine TL.assign rfl rfl ?_
    refine TL.assign rfl rfl ?_
    refine TL.done ?_
    refine Thn.go ?_
    refine TC.seq ?_
    refine TC.region ?_
    refine TL.move rfl rfl ?_
    refine TL.loadAgg (cl x) ag30 rfl rfl (fun q hq => hbx _ (hc40.trans0 hc44) q hq) rfl ?_
    refine TL.call can11 rfl rfl (fn11 _ l x w44 (by omega) (ha.ch0 (q40.trans0 hc44))) (fun v50 w50 hr50 => ?_)
    obtain ⟨o50, rfl, hv50, hc50⟩ := hr50
    have k50 : Ch [] w40 w50 := hc44.trans0 hc50
    refine TL.move rfl rfl ?_
    refine TL.extract rfl rfl rfl ?_
    refine TL.extract rfl rfl rfl ?_
    refine TL.assign rfl rfl ?_
    refine TL.assign rfl rfl ?_
    refine TL.done ?_
    refine Thn.go ?_
    refine TC.seq ?_
    refine TC.region ?_
    refine TL.move rfl rfl ?_
    refine TL.move rfl rfl ?_
    refine TL.move rfl rfl ?_
    refine TL.call can17 rfl rfl (fn17 _ l k q w50 (Rd.ofOwn (hv40.ch0 k50))) (fun v57 w57 hr57 => ?_)
    obtain ⟨rfl, hc57⟩ := hr57
    obtain ⟨y, hy⟩ : ∃ y, (En.findX l k q).getD e0 = y := ⟨_, rfl⟩
    rw [hy]
    refine TL.move rfl rfl ?_
    refine TL.extract rfl rfl rfl ?_
    refine TL.extract rfl rfl rfl ?_
    refine TL.extract rfl rfl rfl ?_
    refine TL.alloc ze30 rfl (fun w14 hb14 hc14 hz14 => ?_)
    refine TL.store sz30 rfl rfl rfl hb14 (by simp [Value.cells]) (by simpa [Value.cells] using cl_one y) (.inl rfl) (fun ws1 hbs1 hcs1 hzs1 => ?_)
    replace hbs1 : Has ws1 w57.heap.size (cl y).toArray 30 (0, 0) := hbs1.setAll rfl
    have k14 : Ch [] w40 ws1 := k50.trans0 (hc57.trans0 (hc14.then1 hcs1 (Nat.le_refl _)))
    refine TL.assign rfl rfl ?_
    refine TL.assign rfl rfl ?_
    refine TL.done ?_
    refine Thn.go ?_
    refine TC.seq ?_
    refine TC.region ?_
    refine TL.move rfl rfl ?_
    refine TL.move rfl rfl ?_
    refine TL.move rfl rfl ?_
    refine TL.call can13 rfl rfl (fn13 _ l k q ws1 (ha.ch0 (q40.trans0 k14))) (fun v65 w65 hr65 => ?_)
    rw [hy] at hr65
    obtain ⟨rfl, hc65⟩ := hr65
    refine TL.move rfl rfl ?_
    refine TL.extract rfl rfl rfl ?_
    refine TL.extract rfl rfl rfl ?_
    refine TL.extract rfl rfl rfl ?_
    refine TL.alloc ze30 rfl (fun w17 hb17 hc17 hz17 => ?_)
    refine TL.store sz30 rfl rfl rfl hb17 (by simp [Value.cells]) (by simpa [Value.cells] using cl_one y) (.inl rfl) (fun ws2 hbs2 hcs2 hzs2 => ?_)
    replace hbs2 : Has ws2 w65.heap.size (cl y).toArray 30 (0, 0) := hbs2.setAll rfl
    have j17 : Ch [] w65 ws2 := hc17.then1 hcs2 (Nat.le_refl _)
    have k17 : Ch [] w40 ws2 := k14.trans0 (hc65.trans0 j17)
    have hbs1 := (hbs1.ch0 hc65).ch0 j17
    refine TL.assign rfl rfl ?_
    refine TL.assign rfl rfl ?_
    refine TL.done ?_
    refine Thn.go ?_
    refine TC.seq ?_
    refine TC.seq ?_
    refine TC.region ?_
    refine TL.move rfl rfl ?_
    refine TL.call can18 rfl rfl (fn18 _ l ws2 (Rd.ofOwn (hv40.ch0 k17))) (fun v70 w70 hr70 => ?_)
    obtain ⟨rfl, hc70⟩ := hr70
    refine TL.move rfl rfl ?_
    refine TL.call can19 rfl rfl (fn19 _ l w70 (ha.ch0 (q40.trans0 (k17.trans0 hc70)))) (fun v72 w72 hr72 => ?_)
    obtain ⟨rfl, hc72⟩ := hr72
    have j72 := hc70.trans0 hc72
    have h44 : Ch [] w44 w72 := hc50.trans0 (hc57.trans0 ((hc14.then1 hcs1 (Nat.le_refl _)).trans0 (hc65.trans0 (j17.trans0 j72))))
    have h50 : Ch [] w50 w72 := hc57.trans0 ((hc14.then1 hcs1 (Nat.le_refl _)).trans0 (hc65.trans0 (j17.trans0 j72)))
    refine TL.neq rfl rfl rfl ?_
    refine TL.no (by simp) ?_
    refine TL.move rfl rfl ?_
    refine TL.guardYes (d := 74) rfl rfl rfl ?_
    refine TL.move rfl rfl ?_
    refine TL.guardYes (d := 74) rfl rfl rfl ?_
    refine TL.move rfl rfl ?_
    refine TL.guardYes (d := 74) rfl rfl rfl ?_
    refine TL.call can15 rfl rfl (fn15 _ _ (En.putL l x) (En.putL l x) w72 (Rd.ofOwn (hv44.ch0 h44)) (Rd.ofOwn (hv50.ch0 h50))) (fun v77 w77 hr77 => ?_)
    obtain ⟨rfl, hc77⟩ := hr77
    refine TL.yes (rfl) ?_
    refine TL.guardYes (d := 74) rfl rfl rfl ?_
    refine TL.not rfl rfl ?_
    refine TL.pickF rfl rfl rfl rfl ?_
    refine TL.move rfl rfl ?_
    refine TL.guardYes (d := 80) rfl rfl rfl ?_
    refine TL.move rfl rfl ?_
    refine TL.guardYes (d := 80) rfl rfl rfl ?_
    refine TL.move rfl rfl ?_
    refine TL.guardYes (d := 80) rfl rfl rfl ?_
    refine TL.neq rfl rfl rfl ?_
    refine TL.no (by simp) ?_
    refine TL.pickF rfl rfl rfl rfl ?_
    refine TL.move rfl rfl ?_
    refine TL.guardYes (d := 85) rfl rfl rfl ?_
    refine TL.loadAgg (cl y) ag30 rfl rfl (fun j _ => by rw [((hbs1.ch0 j72).ch0 hc77).cell, Nat.zero_add, List.getElem?_toArray]) rfl ?_
    refine TL.guardYes (d := 85) rfl rfl rfl ?_
    refine TL.loadAgg (cl y) ag30 rfl rfl (fun j _ => by rw [((hbs2.ch0 j72).ch0 hc77).cell, Nat.zero_add, List.getElem?_toArray]) rfl ?_
    refine TL.guardYes (d := 85) rfl rfl rfl ?_
    refine TL.neqAgg gd30 (eqEntry y y _) rfl rfl rfl ?_
    refine TL.no (by simp) ?_
    refine TL.pickF rfl rfl rfl rfl ?_
    refine TL.move rfl rfl ?_
    refine TL.guardYes (d := 90) rfl rfl rfl ?_
    refine TL.move rfl rfl ?_
    refine TL.guardYes (d := 90) rfl rfl rfl ?_
    refine TL.move rfl rfl ?_
    refine TL.guardYes (d := 90) rfl rfl rfl ?_
    refine TL.neqBool Try.underlying4 rfl rfl rfl ?_
    refine TL.no (by simp) ?_
    refine TL.pickF rfl rfl rfl rfl ?_
    refine TL.move rfl rfl ?_
    refine TL.guardYes (d := 95) rfl rfl rfl ?_
    refine TL.move rfl rfl ?_
    refine TL.guardYes (d := 95) rfl rfl rfl ?_
    refine TL.move rfl rfl ?_
    refine TL.guardYes (d := 95) rfl rfl rfl ?_
    refine TL.neq rfl rfl rfl ?_
    refine TL.no (by simp) ?_
    have g44 := (hv44.ch0 h44).ch0 hc77
    obtain ⟨d44, p44, rfl⟩ := g44.shape
    have q77 : Ch [] w w77 := q40.trans0 (k17.trans0 (j72.trans0 hc77))
    refine TL.pickF rfl rfl rfl rfl ?_
    refine TL.done ?_
    refine Thn.go ?_
    refine TC.condF rfl rfl ?_
    refine TC.skip ?_
    refine Thn.go ?_
    refine TC.seq ?_
    refine TC.seq ?_
    refine TC.region ?_
    refine TL.assign rfl rfl ?_
    refine TL.done ?_
    refine Thn.go ?_
    refine TC.block ?_
    refine TC.loop1 (fun (i : Nat) => [(0, .slice ad l.length c), (9, v40), (10, .slice d44 (En.putL l x).length p44), (20, .int .i64 (i : Int))]) (fun i w' => i ≤ (En.putL l x).length ∧ (0 < (En.putL l x).length → ∃ g cur, d44 = some ⟨g, 0, none⟩ ∧ Has w' g cur 30 (0, 0) ∧ (En.putL l x).length * 4 ≤ cur.size) ∧ Ch (blk (.slice d44 (En.putL l x).length p44)) w77 w') (fun i => (En.putL l x).length - i) 0 (by repeat (first | exact trivial | refine ⟨rfl, ?_⟩)) (⟨by omega, fun h0 => by obtain ⟨g, c', e⟩ := g44.form h0; cases e; obtain ⟨cur, hcur, hcsz, hcn, _⟩ := g44.has; exact ⟨g, cur, rfl, hcur, by omega⟩, Ch.refl _ _⟩) (fun i w' hH => ?_)
    obtain ⟨hi, hg, hch⟩ := hH
    refine TC.seq ?_
    refine TC.seq ?_
    refine TC.region ?_
    refine TL.move rfl rfl ?_
    refine TL.move rfl rfl ?_
    refine TL.lenSlice Try.underlying22 rfl rfl ?_
    refine TL.lss rfl rfl rfl ?_
    refine TL.done ?_
    refine Thn.go ?_
    refine TC.condP rfl (fun h8 => ?_) (fun h8 => ?_)
    ·
      have hil : i < (En.putL l x).length := by omega
      obtain ⟨g, cur, rfl, hcur, hsz⟩ := hg (by omega)
      refine TC.skip ?_
      refine Thn.go ?_
      refine TC.seq ?_
      refine TC.block ?_
      refine TC.region ?_
      refine TL.move rfl rfl ?_
      refine TL.move rfl rfl ?_
      refine TL.buildRec [] [] (cl e0) rfl rfl (by kernel_rfl) rfl ?_
      refine TL.indexAddr (i) sl22 rfl rfl (by first | rfl | omega) (by omega) rfl ?_
      refine TL.store sz30 rfl rfl rfl hcur (by omega) (by simpa [Value.cells] using cl_one e0) (.inl rfl) (fun ws3 hbs3 hcs3 hzs3 => ?_)
      refine TL.done ?_
      refine Blk.go ?_
      refine Thn.go ?_
      refine TC.region ?_
      refine TL.move rfl rfl ?_
      refine TL.add_i64 rfl rfl (by omega) (by omega) rfl ?_
      refine TL.assign rfl rfl ?_
      refine TL.done ?_
      refine Lp.go (i + 1) (by repeat (first | exact trivial | refine ⟨rfl, ?_⟩)) ?_ (by first | omega | (dsimp only; omega))
      exact ⟨by omega, fun _ => ⟨g, _, rfl, hbs3, by rw [size_spl (by simp [cl_len, Value.cells]; omega)]; exact hsz⟩, hch.trans hcs3 (fun x h _ => h) (fun x h _ => by simpa [blk, Value.ownBlock] using h)⟩
    ·
      have qf : Ch [] w w' := q77.thenS hch (fun x hx => by have := hv44.ge x (by simpa [blk] using hx); have := q40.size; omega)
      refine TC.exit ?_
      refine Thn.exit ?_
      refine Lp.exit ?_
      refine Blk.hit ?_
      refine Thn.go ?_
      refine TC.seq ?_
      refine TC.region ?_
      refine TL.move rfl rfl ?_
      refine TL.move rfl rfl ?_
      refine TL.call can15 rfl rfl (fn15 _ _ l l w' (Rd.ofOwn ((hv40.ch0 (k17.trans0 (j72.trans0 hc77))).ch hch (Own.older hv40 (Nat.le_refl _) hv44))) (ha.ch0 qf)) (fun v112 w112 hr112 => ?_)
      obtain ⟨rfl, hc112⟩ := hr112
      refine TL.assign rfl rfl ?_
      refine TL.done ?_
      refine Thn.go ?_
      refine TC.ret ?_
      refine Ends.ret [8] rfl rfl ?_
      exact ⟨by simp; rfl, qf.trans0 hc112⟩

