/-
  Walks through the given program: each theorem fnN says what the call of function N of the translation hands back, for all arguments that its premises describe, and that nothing that was there has turned.
-/
import Derived.Test.YtilnoklpikblgaaE2
import Derived.Test.YtilnoklpikblgaaMg2
namespace Go.Proofs.Ytilnoklpikblgaa
open Go.Lane
theorem sl67 : SliceT Try.prog 67 4 1 1 (.bool false) := SliceT.mk' Try.underlying67 (by kernel_rfl) rfl rfl
theorem sz4 : (Try.prog.info? 4).map (·.size) = some 1 := by kernel_rfl
/-- The marks of the first 'i' of a row. -/
def marks (l : List En.Entry) (q : Int) (i : Nat) : List Value := (List.range l.length).map fun j => .bool (decide (j < i ∧ En.top l q (En.rec l j)))
theorem marks_len (l : List En.Entry) (q : Int) (i : Nat) : (marks l q i).length = l.length := by simp [marks]
theorem made_bools (m : Nat) : (madeCells (Value.bool false).cells (m * 1)).toList = List.replicate m (Value.bool false) := by
  apply List.ext_getElem?
  intro j
  simp only [madeCells, Array.toList_map, Nat.mul_one, Array.toList_range, List.getElem?_map, List.getElem?_replicate]
  by_cases hj : j < m
  · rw [List.getElem?_range hj, if_pos hj]
    show some ((#[Value.bool false] : Array Value)[j % 1]!) = _
    rw [Nat.mod_one]; rfl
  · rw [List.getElem?_eq_none (by simpa using hj), if_neg hj]; rfl
theorem marks_zero (l : List En.Entry) (q : Int) : marks l q 0 = List.replicate l.length (.bool false) := by
  apply List.ext_getElem?
  intro j
  rw [marks, List.getElem?_map, List.getElem?_replicate]
  by_cases hj : j < l.length
  · rw [List.getElem?_range hj, if_pos hj]; simp
  · rw [List.getElem?_eq_none (by simpa using hj), if_neg hj]; rfl
theorem marks_no {l : List En.Entry} {q : Int} {i : Nat} (h : ¬ En.top l q (En.rec l i)) : marks l q (i + 1) = marks l q i := by
  unfold marks
  apply List.map_congr_left
  intro j _
  refine congrArg Value.bool (decide_eq_decide.2 ⟨fun ⟨h1, h2⟩ => ⟨?_, h2⟩, fun ⟨h1, h2⟩ => ⟨by omega, h2⟩⟩)
  rcases Nat.lt_or_ge j i with h3 | h3
  · exact h3
  · rw [show j = i by omega] at h2; exact absurd h2 h
theorem marks_yes {l : List En.Entry} {q : Int} {i : Nat} (hi : i < l.length) (h : En.top l q (En.rec l i)) : marks l q (i + 1) = (marks l q i).set i (.bool true) := by
  apply List.ext_getElem?
  intro j
  rw [List.getElem?_set, marks_len]
  unfold marks
  rw [List.getElem?_map, List.getElem?_map]
  by_cases hj : i = j
  · subst hj
    rw [if_pos rfl, if_pos hi, List.getElem?_range hi]
    simp [h]
  · rw [if_neg hj]
    by_cases h2 : j < l.length
    · rw [List.getElem?_range h2]
      simp only [Option.map_some]
      refine congrArg some (congrArg Value.bool (decide_eq_decide.2 ⟨fun ⟨h1, h2⟩ => ⟨by omega, h2⟩, fun ⟨h1, h2⟩ => ⟨by omega, h2⟩⟩))
    · rw [List.getElem?_eq_none (by simpa using h2)]; rfl
theorem marks_at {l : List En.Entry} {q : Int} {i : Nat} (hi : i < l.length) : (marks l q l.length)[i]? = some (.bool (decide (En.top l q (En.rec l i)))) := by
  rw [marks, List.getElem?_map, List.getElem?_range hi]
  simp [hi]

theorem fn37 (q : Int) (w : World) : Rets Try.prog 37 #[.int .i64 q] w (fun v w' => v = .int .i64 (En.argE q : Int) ∧ w' = w) := by
  refine Rets.of (n := 9) (vs := [_]) Try.func37 rfl rfl rfl ?_
  refine TC.seq ?_
  refine TC.region ?_
  refine TL.assign rfl rfl ?_
  refine TL.done ?_
  refine Thn.go ?_
  refine TC.seq ?_
  refine TC.regionBool (d := 8) (p := (q < 0 ∨ 2147483647 < q)) (fun K1 hK1 => ?_) ?_
  ·
    refine TL.move rfl rfl ?_
    refine TL.lss rfl rfl rfl ?_
    refine TL.em (fun e4 => ?_) (fun e4 => ?_)
    ·
      refine TL.move rfl rfl ?_
      refine TL.guardNo (d := 5) rfl rfl rfl rfl rfl ?_
      refine TL.guardNo (d := 5) rfl rfl rfl rfl rfl ?_
      refine TL.pickT rfl rfl rfl rfl ?_
      refine TL.done ?_
      refine hK1 _ ?_
      refine Le.here rfl (by first | exact decide_eq_true (by omega) | exact decide_eq_false (by omega) | exact decide_eq_decide.2 (by omega) | exact decide_eq_true (by grind) | exact decide_eq_false (by grind) | exact decide_eq_decide.2 (by grind)) ?_
      repeat (first | exact Le.refl _ | refine Le.skip rfl ?_)
    ·
      refine TL.move rfl rfl ?_
      refine TL.guardYes (d := 5) rfl rfl rfl ?_
      refine TL.move rfl rfl ?_
      refine TL.guardYes (d := 5) rfl rfl rfl ?_
      refine TL.gtr rfl rfl rfl ?_
      refine TL.pickF rfl rfl rfl rfl ?_
      refine TL.done ?_
      refine hK1 _ ?_
      refine Le.here rfl (by first | exact decide_eq_true (by omega) | exact decide_eq_false (by omega) | exact decide_eq_decide.2 (by omega) | exact decide_eq_true (by grind) | exact decide_eq_false (by grind) | exact decide_eq_decide.2 (by grind)) ?_
      repeat (first | exact Le.refl _ | refine Le.skip rfl ?_)
  refine TC.condP rfl (fun h3 => ?_) (fun h3 => ?_)
  ·
    refine TC.seq ?_
    refine TC.region ?_
    refine TL.assign rfl rfl ?_
    refine TL.done ?_
    refine Thn.go ?_
    refine TC.ret ?_
    refine Thn.ret ?_
    refine Ends.ret [2] rfl rfl ?_
    exact ⟨by rw [En.argE, if_pos (by assumption)]; rfl, rfl⟩
  ·
    refine TC.skip ?_
    refine Thn.go ?_
    refine TC.seq ?_
    refine TC.region ?_
    refine TL.assign rfl rfl ?_
    refine TL.done ?_
    refine Thn.go ?_
    refine TC.ret ?_
    refine Ends.ret [2] rfl rfl ?_
    exact ⟨by rw [En.argE, if_neg (by assumption)]; rfl, rfl⟩

theorem fn38 (a : Value) (l : List En.Entry) (q : Int) (hs : l.Pairwise En.less) (hl : l.length ≤ 100000) (w : World) (ha : Rd w a 4 l.length (l.flatMap cl)) : Rets Try.prog 38 #[a, .int .i64 q] w (fun v w' => (∃ ad c, v = .slice ad l.length c) ∧ Own w' w.heap.size 4 1 v l.length (marks l q l.length) ∧ Ch [] w w') := by
  obtain ⟨ad, c, rfl, _⟩ := ha.shape
  have hmm : maxLen = 9223372036854775807 := rfl
  refine Rets.of (n := 43) (vs := [_, _]) Try.func38 rfl rfl rfl ?_
  refine TC.seq ?_
  refine TC.region ?_
  refine TL.assign rfl rfl ?_
  refine TL.done ?_
  refine Thn.go ?_
  refine TC.seq ?_
  refine TC.region ?_
  refine TL.move rfl rfl ?_
  refine TL.lenSlice Try.underlying25 rfl rfl ?_
  refine TL.makeSlice l.length sl67 rfl rfl rfl (by omega) (by omega) rfl (fun w12 hv12 hc12 hz12 => ?_)
  rw [made_bools, ← marks_zero l q] at hv12
  refine TL.assign rfl rfl ?_
  refine TL.done ?_
  refine Thn.go ?_
  refine TC.seq ?_
  refine TC.region ?_
  refine TL.assign rfl rfl ?_
  refine TL.assign rfl rfl ?_
  refine TL.done ?_
  refine Thn.go ?_
  refine TC.seq ?_
  refine TC.seq ?_
  refine TC.region ?_
  refine TL.move rfl rfl ?_
  refine TL.lenSlice Try.underlying25 rfl rfl ?_
  refine TL.move rfl rfl ?_
  refine TL.done ?_
  refine Thn.go ?_
  refine TC.block ?_
  have hs0 : ((.bool false : Value)) = .bool (decide (En.seen l q 0 (En.keyAt l 0))) := congrArg Value.bool (decide_eq_false (En.seen_zero _ _ _)).symm
  rw [show (Value.bool false) = .bool (decide (En.seen l q 0 (En.keyAt l 0))) from hs0]
  refine TC.loop1 (fun (i : Nat) => [(0, .slice ad l.length c), (1, .int .i64 q), (5, .slice (some ⟨w.heap.size, 0, none⟩) l.length l.length), (6, str (En.keyAt l i)), (7, .bool (decide (En.seen l q i (En.keyAt l i)))), (13, .slice ad l.length c), (14, .int .i64 (l.length : Int)), (15, .int .i64 (i : Int))]) (fun i w' => i ≤ l.length ∧ Own w' w.heap.size 4 1 (.slice (some ⟨w.heap.size, 0, none⟩) l.length l.length) l.length (marks l q i) ∧ Ch [] w w') (fun i => l.length - i) 0 (by repeat (first | exact trivial | refine ⟨rfl, ?_⟩)) (⟨by omega, hv12, hc12⟩) (fun i w' hH => ?_)
  obtain ⟨hi, hown, hch⟩ := hH
  refine TC.seq ?_
  refine TC.region ?_
  refine TL.lss rfl rfl rfl ?_
  refine TL.done ?_
  refine Thn.go ?_
  refine TC.seq ?_
  refine TC.condP rfl (fun h1 => ?_) (fun h1 => ?_)
  ·
    have hil : i < l.length := by omega
    obtain ⟨b1, o1, rfl, hce⟩ := recIn (ha.ch0 hch) hil
    refine TC.skip ?_
    refine Thn.go ?_
    refine TC.seq ?_
    refine TC.block ?_
    refine TC.seq ?_
    refine TC.region ?_
    refine TL.move rfl rfl ?_
    refine TL.indexAddr (i) sl25 rfl rfl (by first | rfl | omega) (by omega) rfl ?_
    refine TL.loadAgg (cl (En.rec l i)) ag32 rfl rfl (fun j hj => hce _ (Ch.refl _ _) j hj) rfl ?_
    refine TL.alloc ze32 rfl (fun w9 hb9 hc9 hz9 => ?_)
    refine TL.assign rfl rfl ?_
    refine TL.store sz32 rfl rfl rfl hb9 (by simp [Value.cells]) (by simpa [Value.cells] using cl_one (En.rec l i)) (.inl rfl) (fun ws1 hbs1 hcs1 hzs1 => ?_)
    replace hbs1 : Has ws1 w'.heap.size (cl (En.rec l i)).toArray 32 (0, 0) := hbs1.setAll rfl
    have q1 : Ch [] w' ws1 := hc9.then1 hcs1 (Nat.le_refl _)
    have hown1 := hown.ch0 q1
    refine TL.done ?_
    refine Thn.go ?_
    refine TC.cut0 ([(0, .slice (some ⟨b1, o1, none⟩) l.length c), (1, .int .i64 q), (5, .slice (some ⟨w.heap.size, 0, none⟩) l.length l.length), (6, str (En.rec l i).key), (7, .bool (decide (En.seen l q i (En.rec l i).key))), (8, .int .i64 (i : Int)), (9, .pointer (some ⟨w'.heap.size, 0, none⟩)), (13, .slice (some ⟨b1, o1, none⟩) l.length c), (14, .int .i64 (l.length : Int)), (15, .int .i64 (i : Int))]) (fun w2 => w2 = ws1) (fun K2 hK2 => ?_) (fun w2 hM => ?_)
    ·
      refine TC.regionBool (d := 27) (p := (i = 0 ∨ ¬ (En.rec l i).key = En.keyAt l i)) (fun K3 hK3 => ?_) ?_
      ·
        refine TL.move rfl rfl ?_
        refine TL.eql rfl rfl rfl ?_
        refine TL.em (fun e21 => ?_) (fun e21 => ?_)
        ·
          refine TL.move rfl rfl ?_
          refine TL.guardNo (d := 22) rfl rfl rfl rfl rfl ?_
          refine TL.guardNo (d := 22) rfl rfl rfl rfl rfl ?_
          refine TL.guardNo (d := 22) rfl rfl rfl rfl rfl ?_
          refine TL.guardNo (d := 22) rfl rfl rfl rfl rfl ?_
          refine TL.pickT rfl rfl rfl rfl ?_
          refine TL.done ?_
          refine hK3 _ ?_
          refine Le.here rfl (by first | exact decide_eq_true (by omega) | exact decide_eq_false (by omega) | exact decide_eq_decide.2 (by omega) | exact decide_eq_true (by grind) | exact decide_eq_false (by grind) | exact decide_eq_decide.2 (by grind)) ?_
          repeat (first | exact Le.refl _ | refine Le.skip rfl ?_)
        ·
          refine TL.move rfl rfl ?_
          refine TL.guardYes (d := 22) rfl rfl rfl ?_
          refine TL.fieldAddr fd32k0 rfl rfl ?_
          refine TL.guardYes (d := 22) rfl rfl rfl ?_
          refine TL.load pl9 rfl (hbs1.cell _) rfl ?_
          refine TL.guardYes (d := 22) rfl rfl rfl ?_
          refine TL.move rfl rfl ?_
          refine TL.guardYes (d := 22) rfl rfl rfl ?_
          refine TL.neqStr rfl rfl rfl ?_
          refine TL.pickF rfl rfl rfl rfl ?_
          refine TL.done ?_
          refine hK3 _ ?_
          refine Le.here rfl (by first | exact decide_eq_true (by omega) | exact decide_eq_false (by omega) | exact decide_eq_decide.2 (by omega) | exact decide_eq_true (by grind) | exact decide_eq_false (by grind) | exact decide_eq_decide.2 (by grind)) ?_
          repeat (first | exact Le.refl _ | refine Le.skip rfl ?_)
      refine TC.condP rfl (fun h5 => ?_) (fun h5 => ?_)
      ·
        have hns := En.seen_new hs (q := q) hil (by assumption)
        refine TC.region ?_
        refine TL.fieldAddr fd32k0 rfl rfl ?_
        refine TL.load pl9 rfl (hbs1.cell _) rfl ?_
        refine TL.assign rfl rfl ?_
        refine TL.assign rfl rfl ?_
        refine TL.done ?_
        exact hK2  _ _ (by repeat (first | exact trivial | refine ⟨rfl, ?_⟩ | refine ⟨congrArg (fun b => some (Value.bool b)) (by first | exact (decide_eq_true (by grind)).symm | exact (decide_eq_false (by grind)).symm | exact decide_eq_decide.2 (by grind) | exact decide_eq_true (by grind) | exact decide_eq_false (by grind) | (exfalso; grind)), ?_⟩)) (rfl)
      ·
        have hke : (En.rec l i).key = En.keyAt l i := Decidable.not_not.1 (fun h => (by assumption : ¬ (i = 0 ∨ ¬ (En.rec l i).key = En.keyAt l i)) (.inr h))
        rw [← hke]
        refine TC.skip ?_
        exact hK2  _ _ (by repeat (first | exact trivial | refine ⟨rfl, ?_⟩ | refine ⟨congrArg (fun b => some (Value.bool b)) (by first | exact (decide_eq_true (by grind)).symm | exact (decide_eq_false (by grind)).symm | exact decide_eq_decide.2 (by grind) | exact decide_eq_true (by grind) | exact decide_eq_false (by grind) | (exfalso; grind)), ?_⟩)) (rfl)
    ·
      subst hM
      have htop := En.top_seen hs (q := q) hil
      refine TC.regionBool (d := 37) (p := En.top l q (En.rec l i)) (fun K6 hK6 => ?_) ?_
      ·
        refine TL.fieldAddr fd32k2 rfl rfl ?_
        refine TL.load pl3 rfl (hbs1.cell _) rfl ?_
        refine TL.move rfl rfl ?_
        refine TL.leq rfl rfl rfl ?_
        refine TL.em (fun e33 => ?_) (fun e33 => ?_)
        ·
          refine TL.move rfl rfl ?_
          refine TL.guardYes (d := 34) rfl rfl rfl ?_
          refine TL.move rfl rfl ?_
          refine TL.guardYes (d := 34) rfl rfl rfl ?_
          refine TL.notP rfl rfl ?_
          refine TL.pickT rfl rfl rfl rfl ?_
          refine TL.done ?_
          refine hK6 _ ?_
          refine Le.here rfl (by first | exact decide_eq_true (by omega) | exact decide_eq_false (by omega) | exact decide_eq_decide.2 (by omega) | exact decide_eq_true (by grind) | exact decide_eq_false (by grind) | exact decide_eq_decide.2 (by grind)) ?_
          repeat (first | exact Le.refl _ | refine Le.skip rfl ?_)
        ·
          refine TL.move rfl rfl ?_
          refine TL.guardNo (d := 34) rfl rfl rfl rfl rfl ?_
          refine TL.guardNo (d := 34) rfl rfl rfl rfl rfl ?_
          refine TL.pickF rfl rfl rfl rfl ?_
          refine TL.done ?_
          refine hK6 _ ?_
          refine Le.here rfl (by first | exact decide_eq_true (by omega) | exact decide_eq_false (by omega) | exact decide_eq_decide.2 (by omega) | exact decide_eq_true (by grind) | exact decide_eq_false (by grind) | exact decide_eq_decide.2 (by grind)) ?_
          repeat (first | exact Le.refl _ | refine Le.skip rfl ?_)
      refine TC.condP rfl (fun h8 => ?_) (fun h8 => ?_)
      ·
        have ht : En.top l q (En.rec l i) := by assumption
        obtain ⟨cur, hcur, hcsz, hcn, _, hgb, _⟩ := hown1.has
        refine TC.region ?_
        refine TL.move rfl rfl ?_
        refine TL.move rfl rfl ?_
        refine TL.indexAddr (i) sl67 rfl rfl (by first | rfl | omega) (by omega) rfl ?_
        refine TL.store sz4 rfl rfl rfl hcur (by omega) (by simp [Value.cells, Value.oneCell']) (.inl rfl) (fun ws2 hbs2 hcs2 hzs2 => ?_)
        have hown2 := hown1.store1 hcur (k := i) (v := .bool true) (by rw [Nat.zero_add, Nat.mul_one] at hbs2; exact hbs2.setOne rfl (by omega))
        rw [← marks_yes hil ht] at hown2
        refine TL.assign rfl rfl ?_
        refine TL.done ?_
        refine Blk.go ?_
        refine Thn.go ?_
        refine TC.region ?_
        refine TL.add_i64 rfl rfl (by omega) (by omega) rfl ?_
        refine TL.move rfl rfl ?_
        refine TL.done ?_
        refine Lp.go (i + 1) ⟨rfl, rfl, rfl, rfl, congrArg (fun b => some (Value.bool b)) (decide_eq_true (En.seen_next.2 (.inr ⟨rfl, ht.1⟩))).symm, rfl, rfl, rfl, trivial⟩ ?_ (by omega)
        exact ⟨by omega, hown2, (hch.trans0 q1).then1 hcs2 (Nat.le_refl _)⟩
      ·
        have ht : ¬ En.top l q (En.rec l i) := by assumption
        have hsn : En.seen l q i (En.rec l i).key ↔ En.seen l q (i + 1) (En.rec l i).key := ⟨fun h => En.seen_next.2 (.inl h), fun h => (En.seen_next.1 h).elim id (fun h2 => Decidable.not_not.1 (fun h3 => ht (htop.2 ⟨h2.2, h3⟩)))⟩
        refine TC.skip ?_
        refine Blk.go ?_
        refine Thn.go ?_
        refine TC.region ?_
        refine TL.add_i64 rfl rfl (by omega) (by omega) rfl ?_
        refine TL.move rfl rfl ?_
        refine TL.done ?_
        refine Lp.go (i + 1) ⟨rfl, rfl, rfl, rfl, congrArg (fun b => some (Value.bool b)) (decide_eq_decide.2 hsn), rfl, rfl, rfl, trivial⟩ ?_ (by omega)
        exact ⟨by omega, by rw [marks_no ht]; exact hown1, hch.trans0 q1⟩
  ·
    have hil : i = l.length := by omega
    subst hil
    refine TC.exit ?_
    refine Thn.exit ?_
    refine Lp.exit ?_
    refine Blk.hit ?_
    refine Thn.go ?_
    refine TC.seq ?_
    refine TC.region ?_
    refine TL.move rfl rfl ?_
    refine TL.assign rfl rfl ?_
    refine TL.done ?_
    refine Thn.go ?_
    refine TC.ret ?_
    refine Ends.ret [4] rfl rfl ?_
    exact ⟨⟨_, _, rfl⟩, hown, hch⟩

