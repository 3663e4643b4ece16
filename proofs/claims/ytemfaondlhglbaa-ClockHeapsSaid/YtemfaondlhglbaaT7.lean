/-
  Walks through the given program: each theorem fnN says what the call of function N of the translation hands back, for all arguments that its premises describe, and that nothing that was there has turned.
-/
import Derived.Test.YtemfaondlhglbaaT6
import Derived.Test.YtemfaondlhglbaaTm3
namespace Go.Proofs.Ytemfaondlhglbaa
open Go.Lane


theorem fn27 (a : Value) (l : List Tm.Timer) (t : Tm.Timer) (hl : l.length ≤ 100000) (w : World) (ha : Rd w a 5 l.length (l.flatMap cl)) : Rets Try.prog 27 #[a, .agg (cl t).toArray] w (fun v w' => Own w' w.heap.size 27 5 v (Tm.ins l t).length ((Tm.ins l t).flatMap cl) ∧ Ch [] w w') := by
  obtain ⟨ad, c, rfl, _⟩ := ha.shape
  have hmm : maxLen = 9223372036854775807 := rfl
  refine Rets.of (n := 42) (vs := [_, _]) Try.func27 rfl rfl rfl ?_
  refine TC.seq ?_
  refine TC.region ?_
  refine TL.box rfl rfl (fun w3 hb3 hc3 hz3 => ?_)
  replace hb3 : Has w3 w.heap.size (cl t).toArray 27 (0, 0) := hb3
  refine TL.assign rfl rfl ?_
  refine TL.done ?_
  refine Thn.go ?_
  refine TC.seq ?_
  refine TC.region ?_
  refine TL.assign rfl rfl ?_
  refine TL.done ?_
  refine Thn.go ?_
  refine TC.seq ?_
  refine TC.region ?_
  refine TL.assign rfl rfl ?_
  refine TL.done ?_
  refine Thn.go ?_
  refine TC.seq ?_
  refine TC.seq ?_
  refine TC.region ?_
  refine TL.assign rfl rfl ?_
  refine TL.done ?_
  refine Thn.go ?_
  refine TC.block ?_
  refine TC.loop3 (fun (i : Nat) (v : Value) (fd : Bool) => [(0, .slice ad l.length c), (3, .pointer (some ⟨w.heap.size, 0, none⟩)), (5, v), (6, .bool (decide (fd = true))), (7, .int .i64 (i : Int))]) (fun i v fd w' => i ≤ l.length ∧ fd = Tm.insD l t i ∧ Own w' w3.heap.size 27 5 v (Tm.insO l t i).length ((Tm.insO l t i).flatMap cl) ∧ Ch [] w3 w') (fun i _ _ => l.length - i) 0 (.slice none 0 0) false (by repeat (first | exact trivial | refine ⟨rfl, ?_⟩)) (⟨by omega, rfl, World.ownsRow_nil _ _ _ _, Ch.refl _ _⟩) (fun i v fd w' hH => ?_)
  obtain ⟨hi, hfd, hown, hch⟩ := hH
  have hol := Tm.insO_len l t i
  have z1 := hch.size
  refine TC.seq ?_
  refine TC.seq ?_
  refine TC.region ?_
  refine TL.move rfl rfl ?_
  refine TL.move rfl rfl ?_
  refine TL.lenSlice Try.underlying25 rfl rfl ?_
  refine TL.lss rfl rfl rfl ?_
  refine TL.done ?_
  refine Thn.go ?_
  refine TC.condP rfl (fun h1 => ?_) (fun h1 => ?_)
  ·
    have hil : i < l.length := by omega
    obtain ⟨b1, o1, rfl, _⟩ := recAt ((ha.ch0 hc3).ch0 hch) hil
    have hce : ∀ w2, Ch [] w3 w2 → ∀ j, j < 5 → w2.cell? ⟨b1, o1 + i * 5 + j, none⟩ = (cl (Tm.rec l i))[j]? := fun w2 h2 => by obtain ⟨b', o', e, hh⟩ := recAt (i := i) ((ha.ch0 hc3).ch0 h2) (by omega); cases e; exact hh
    refine TC.skip ?_
    refine Thn.go ?_
    refine TC.seq ?_
    refine TC.block ?_
    refine TC.cut2 (fun (v2 : Value) (fd2 : Bool) => [(0, .slice (some ⟨b1, o1, none⟩) l.length c), (3, .pointer (some ⟨w.heap.size, 0, none⟩)), (5, v2), (6, .bool (decide (fd2 = true))), (7, .int .i64 (i : Int))]) (fun v2 fd2 w4 => fd2 = Tm.insD l t (i + 1) ∧ Own w4 w3.heap.size 27 5 v2 (Tm.insO l t i ++ if Tm.insD l t i = false ∧ Tm.ahead t (Tm.rec l i) then [t] else []).length ((Tm.insO l t i ++ if Tm.insD l t i = false ∧ Tm.ahead t (Tm.rec l i) then [t] else []).flatMap cl) ∧ Ch [] w3 w4) (fun K2 hK2 => ?_) (fun v2 fd2 w4 hM => ?_)
    ·
      refine TC.cut0 ([(0, .slice (some ⟨b1, o1, none⟩) l.length c), (3, .pointer (some ⟨w.heap.size, 0, none⟩)), (5, v), (6, .bool (decide (fd = true))), (7, .int .i64 (i : Int)), (23, .bool (decide (¬ fd = true ∧ Tm.ahead t (Tm.rec l i))))]) (fun w5 => Ch [] w' w5) (fun K3 hK3 => ?_) (fun w5 hH => ?_)
      ·
        refine TC.regionQ (fun w6 => Ch [] w' w6) mixed0 (by kernel_rfl) (Ch.drew [] _) ?_
        refine TQ.via rfl rfl rfl rfl (fun w2 hw2 => TL.move rfl rfl (TL.done ⟨rfl, rfl⟩)) ?_
        refine TQ.emB (fun e14 => ?_) (fun e14 => ?_)
        ·
          refine TQ.via rfl rfl rfl rfl (fun w2 hw2 => TL.not rfl rfl (TL.done ⟨rfl, rfl⟩)) ?_
          refine TQ.via rfl rfl rfl rfl (fun w2 hw2 => TL.move rfl rfl (TL.done ⟨rfl, rfl⟩)) ?_
          refine TQ.guardNo (d := 16) rfl rfl rfl rfl rfl ?_
          refine TQ.guardNo (d := 16) rfl rfl rfl rfl rfl ?_
          refine TQ.guardNo (d := 16) rfl rfl rfl rfl rfl ?_
          refine TQ.guardNo (d := 16) rfl rfl rfl rfl rfl ?_
          refine TQ.guardNo (d := 16) rfl rfl rfl rfl rfl ?_
          refine TQ.guardNo (d := 16) rfl rfl rfl rfl rfl ?_
          refine TQ.via rfl rfl rfl rfl (fun w2 hw2 => TL.pickF rfl rfl rfl rfl (TL.done ⟨rfl, rfl⟩)) ?_
          refine TQ.done (fun w2 hw2 => ?_)
          exact hK3  _ _ (by repeat (first | exact trivial | refine ⟨rfl, ?_⟩ | refine ⟨congrArg (fun b => some (Value.bool b)) (by first | exact (decide_eq_true (by grind)).symm | exact (decide_eq_false (by grind)).symm | exact decide_eq_decide.2 (by grind) | exact decide_eq_true (by grind) | exact decide_eq_false (by grind) | (exfalso; grind)), ?_⟩)) (hw2)
        ·
          refine TQ.via rfl rfl rfl rfl (fun w2 hw2 => TL.not rfl rfl (TL.done ⟨rfl, rfl⟩)) ?_
          refine TQ.via rfl rfl rfl rfl (fun w2 hw2 => TL.move rfl rfl (TL.done ⟨rfl, rfl⟩)) ?_
          refine TQ.guardYes (d := 16) rfl rfl rfl ?_
          refine TQ.via rfl rfl rfl rfl (fun w2 hw2 => TL.loadAgg (cl t) ag27 rfl rfl (fun j _ => by rw [((hb3.ch0 hch).ch0 hw2).cell, Nat.zero_add, List.getElem?_toArray]) rfl (TL.done ⟨rfl, rfl⟩)) ?_
          refine TQ.guardYes (d := 16) rfl rfl rfl ?_
          refine TQ.via rfl rfl rfl rfl (fun w2 hw2 => TL.move rfl rfl (TL.done ⟨rfl, rfl⟩)) ?_
          refine TQ.guardYes (d := 16) rfl rfl rfl ?_
          refine TQ.via rfl rfl rfl rfl (fun w2 hw2 => TL.move rfl rfl (TL.done ⟨rfl, rfl⟩)) ?_
          refine TQ.guardYes (d := 16) rfl rfl rfl ?_
          refine TQ.via rfl rfl rfl rfl (fun w2 hw2 => TL.indexAddr (i) sl25 rfl rfl (by first | rfl | omega) (by omega) rfl (TL.done ⟨rfl, rfl⟩)) ?_
          refine TQ.guardYes (d := 16) rfl rfl rfl ?_
          refine TQ.via rfl rfl rfl rfl (fun w2 hw2 => TL.loadAgg (cl (Tm.rec l i)) ag27 rfl rfl (fun j hj => hce _ (hch.trans0 hw2) j hj) rfl (TL.done ⟨rfl, rfl⟩)) ?_
          refine TQ.guardYes (d := 16) rfl rfl rfl ?_
          refine TQ.call (.bool (decide (Tm.ahead t (Tm.rec l i)))) can39 rfl rfl (fun w2 hw2 => (fn39 t (Tm.rec l i) w2).mono (fun _ _ ⟨q1, q2⟩ => ⟨q1, hw2.trans0 q2⟩)) ?_
          refine TQ.via rfl rfl rfl rfl (fun w2 hw2 => TL.pickT rfl rfl rfl rfl (TL.done ⟨rfl, rfl⟩)) ?_
          refine TQ.done (fun w2 hw2 => ?_)
          exact hK3  _ _ (by repeat (first | exact trivial | refine ⟨rfl, ?_⟩ | refine ⟨congrArg (fun b => some (Value.bool b)) (by first | exact (decide_eq_true (by grind)).symm | exact (decide_eq_false (by grind)).symm | exact decide_eq_decide.2 (by grind) | exact decide_eq_true (by grind) | exact decide_eq_false (by grind) | (exfalso; grind)), ?_⟩)) (hw2)
      ·
        refine TC.condP rfl (fun h4 => ?_) (fun h4 => ?_)
        ·
          have hand : ¬ fd = true ∧ Tm.ahead t (Tm.rec l i) := by assumption
          have hdf : Tm.insD l t i = false := by rw [← hfd]; exact Bool.eq_false_iff.2 hand.1
          have z2 := hH.size
          refine TC.seq ?_
          refine TC.region ?_
          refine TL.move rfl rfl ?_
          refine TL.loadAgg (cl t) ag27 rfl rfl (fun j _ => by rw [((hb3.ch0 hch).ch0 hH).cell, Nat.zero_add, List.getElem?_toArray]) rfl ?_
          refine TL.buildSlice [.tmp 25] sl25 rfl rfl rfl (by decide) (by first | simp [Value.cells]; done | simp [Value.cells, cl_len]; done) rfl (fun w26 hb26 hc26 hz26 => ?_)
          refine TL.append sl25 rfl rfl rfl ((hown.ch0 hH).ch0 hc26) (News.ofRd Try.underlying25 (recOne hb26) (rows_one _)) (by omega) (by omega) (by omega) (fun v27 w27 hv27 hc27 _ => ?_)
          refine TL.assign rfl rfl ?_
          refine TL.done ?_
          refine Thn.go ?_
          refine TC.region ?_
          refine TL.assign rfl rfl ?_
          refine TL.done ?_
          exact hK2 v27 true _ _ (by repeat (first | exact trivial | refine ⟨rfl, ?_⟩ | refine ⟨congrArg (fun b => some (Value.bool b)) (by first | exact (decide_eq_true (by grind)).symm | exact (decide_eq_false (by grind)).symm | exact decide_eq_decide.2 (by grind) | exact decide_eq_true (by grind) | exact decide_eq_false (by grind) | (exfalso; grind)), ?_⟩)) (⟨by rw [Tm.insD, hdf]; simp [hand.2], by rw [if_pos ⟨hdf, hand.2⟩, List.length_append, List.flatMap_append]; exact hv27, ((hown.ch0 hH).ch0 hc26).thenCh (hch.trans0 (hH.trans0 hc26)) hc27⟩)
        ·
          have hand : ¬ (¬ fd = true ∧ Tm.ahead t (Tm.rec l i)) := by assumption
          refine TC.skip ?_
          exact hK2 v fd _ _ (by repeat (first | exact trivial | refine ⟨rfl, ?_⟩ | refine ⟨congrArg (fun b => some (Value.bool b)) (by first | exact (decide_eq_true (by grind)).symm | exact (decide_eq_false (by grind)).symm | exact decide_eq_decide.2 (by grind) | exact decide_eq_true (by grind) | exact decide_eq_false (by grind) | (exfalso; grind)), ?_⟩)) (⟨by rw [Tm.insD, ← hfd]; cases fd <;> simp_all, by rw [if_neg (fun h => hand ⟨by rw [hfd, h.1]; simp, h.2⟩), List.append_nil]; exact hown.ch0 hH, hch.trans0 hH⟩)
    ·
      obtain ⟨hfd2, hown2, hch2⟩ := hM
      have z3 := hch2.size
      have hol2 : (Tm.insO l t i ++ if Tm.insD l t i = false ∧ Tm.ahead t (Tm.rec l i) then [t] else []).length ≤ 2 * i + 1 := by rw [List.length_append]; split <;> simp <;> omega
      refine TC.region ?_
      refine TL.move rfl rfl ?_
      refine TL.move rfl rfl ?_
      refine TL.move rfl rfl ?_
      refine TL.indexAddr (i) sl25 rfl rfl (by first | rfl | omega) (by omega) rfl ?_
      refine TL.loadAgg (cl (Tm.rec l i)) ag27 rfl rfl (fun j hj => hce _ hch2 j hj) rfl ?_
      refine TL.buildSlice [.tmp 32] sl25 rfl rfl rfl (by decide) (by first | simp [Value.cells]; done | simp [Value.cells, cl_len]; done) rfl (fun w33 hb33 hc33 hz33 => ?_)
      refine TL.append sl25 rfl rfl rfl (hown2.ch0 hc33) (News.ofRd Try.underlying25 (recOne hb33) (rows_one _)) (by omega) (by omega) (by omega) (fun v34 w34 hv34 hc34 _ => ?_)
      refine TL.assign rfl rfl ?_
      refine TL.done ?_
      refine Blk.go ?_
      refine Thn.go ?_
      refine TC.region ?_
      refine TL.move rfl rfl ?_
      refine TL.add_i64 rfl rfl (by omega) (by omega) rfl ?_
      refine TL.assign rfl rfl ?_
      refine TL.done ?_
      refine Lp.go ((i + 1, v34, fd2)) (by repeat (first | exact trivial | refine ⟨rfl, ?_⟩)) ?_ (by first | omega | (dsimp only; omega))
      refine ⟨by show i + 1 ≤ l.length; omega, hfd2, ?_, (hown2.ch0 hc33).thenCh (hch2.trans0 hc33) hc34⟩
      show Own w34 _ 27 5 v34 (Tm.insO l t (i + 1)).length _
      rw [Tm.insO, List.length_append, List.flatMap_append]; exact hv34
  ·
    have hil : i = l.length := by omega
    subst hil
    refine TC.exit ?_
    refine Thn.exit ?_
    refine Lp.exit ?_
    refine Blk.hit ?_
    refine Thn.go ?_
    refine TC.cut1 (fun (v2 : Value) => [(5, v2)]) (fun v2 w4 => Own w4 w3.heap.size 27 5 v2 (Tm.ins l t).length ((Tm.ins l t).flatMap cl) ∧ Ch [] w3 w4) (fun K5 hK5 => ?_) (fun v2 w4 hM => ?_)
    ·
      refine TC.seq ?_
      refine TC.region ?_
      refine TL.move rfl rfl ?_
      refine TL.notP rfl rfl ?_
      refine TL.done ?_
      refine Thn.go ?_
      refine TC.condP rfl (fun h6 => ?_) (fun h6 => ?_)
      ·
        have hdf : Tm.insD l t l.length = false := by rw [← hfd]; exact Bool.eq_false_iff.2 (by assumption)
        refine TC.region ?_
        refine TL.move rfl rfl ?_
        refine TL.loadAgg (cl t) ag27 rfl rfl (fun j _ => by rw [(hb3.ch0 hch).cell, Nat.zero_add, List.getElem?_toArray]) rfl ?_
        refine TL.buildSlice [.tmp 38] sl25 rfl rfl rfl (by decide) (by first | simp [Value.cells]; done | simp [Value.cells, cl_len]; done) rfl (fun w39 hb39 hc39 hz39 => ?_)
        refine TL.append sl25 rfl rfl rfl (hown.ch0 hc39) (News.ofRd Try.underlying25 (recOne hb39) (rows_one _)) (by omega) (by omega) (by omega) (fun v40 w40 hv40 hc40 _ => ?_)
        refine TL.assign rfl rfl ?_
        refine TL.done ?_
        exact hK5 v40 _ _ (by repeat (first | exact trivial | refine ⟨rfl, ?_⟩ | refine ⟨congrArg (fun b => some (Value.bool b)) (by first | exact (decide_eq_true (by grind)).symm | exact (decide_eq_false (by grind)).symm | exact decide_eq_decide.2 (by grind) | exact decide_eq_true (by grind) | exact decide_eq_false (by grind) | (exfalso; grind)), ?_⟩)) (⟨by rw [Tm.ins, if_pos hdf, List.length_append, List.flatMap_append]; exact hv40, (hown.ch0 hc39).thenCh (hch.trans0 hc39) hc40⟩)
      ·
        have hdt : ¬ Tm.insD l t l.length = false := by rw [← hfd, Decidable.not_not.1 (by assumption : ¬ ¬ fd = true)]; decide
        refine TC.skip ?_
        exact hK5 v _ _ (by repeat (first | exact trivial | refine ⟨rfl, ?_⟩ | refine ⟨congrArg (fun b => some (Value.bool b)) (by first | exact (decide_eq_true (by grind)).symm | exact (decide_eq_false (by grind)).symm | exact decide_eq_decide.2 (by grind) | exact decide_eq_true (by grind) | exact decide_eq_false (by grind) | (exfalso; grind)), ?_⟩)) (⟨by rw [Tm.ins, if_neg hdt, List.append_nil]; exact hown, hch⟩)
    ·
      obtain ⟨hown3, hch3⟩ := hM
      refine TC.seq ?_
      refine TC.region ?_
      refine TL.move rfl rfl ?_
      refine TL.assign rfl rfl ?_
      refine TL.done ?_
      refine Thn.go ?_
      refine TC.ret ?_
      refine Ends.ret [4] rfl rfl ?_
      exact ⟨hown3.base hc3.size, hc3.trans0 hch3⟩

