/-
  Walks through the given program: each theorem fnN says what the call of function N of the translation hands back, for all arguments that its premises describe, and that nothing that was there has turned.
-/
import Derived.Test.YtjnagpddiemdhaaW2
namespace Go.Proofs.Ytjnagpddiemdhaa
open Go.Lane
theorem ag33 : AggT Try.prog 33 6 := ⟨⟨_, Try.underlying33, rfl⟩, by kernel_rfl⟩
theorem can33 : Callable Try.prog 33 := ⟨Try.f33, Try.func33, by kernel_rfl, rfl⟩
theorem can34 : Callable Try.prog 34 := ⟨Try.f34, Try.func34, by kernel_rfl, rfl⟩
theorem mixed0 : Try.prog.follows .mixedOrders = true := by kernel_rfl
theorem sl22 : SliceT Try.prog 22 33 6 72 (.agg #[.int .i64 0, .int .i64 0, .string ⟨#[]⟩, .string ⟨#[]⟩, .int .u8 0, .string ⟨#[]⟩]) := SliceT.mk' Try.underlying22 (by kernel_rfl) rfl rfl
theorem sz33 : (Try.prog.info? 33).map (·.size) = some 6 := by kernel_rfl
theorem ze33 : ZeroT Try.prog 33 (.agg #[.int .i64 0, .int .i64 0, .string ⟨#[]⟩, .string ⟨#[]⟩, .int .u8 0, .string ⟨#[]⟩]) := by unfold ZeroT; kernel_rfl

theorem fn25 (a : Value) (l : List Wk.Work) (w : World) (ha : Rd w a 6 l.length (l.flatMap cl)) : Rets Try.prog 25 #[a] w (fun v w' => v = .int .i64 (Wk.checkE l : Int) ∧ Ch [] w w') := by
  obtain ⟨ad, c, rfl, _⟩ := ha.shape
  have hmx : l.length ≤ 9223372036854775807 := ha.nlt
  refine Rets.of (n := 34) (vs := [_]) Try.func25 rfl rfl rfl ?_
  refine TC.seq ?_
  refine TC.region ?_
  refine TL.assign rfl rfl ?_
  refine TL.done ?_
  refine Thn.go ?_
  refine TC.seq ?_
  refine TC.seq ?_
  refine TC.region ?_
  refine TL.move rfl rfl ?_
  refine TL.lenSlice Try.underlying22 rfl rfl ?_
  refine TL.gtr rfl rfl rfl ?_
  refine TL.done ?_
  refine Thn.go ?_
  refine TC.condP rfl (fun h1 => ?_) (fun h1 => ?_)
  ·
    refine TC.seq ?_
    refine TC.region ?_
    refine TL.assign rfl rfl ?_
    refine TL.done ?_
    refine Thn.go ?_
    refine TC.ret ?_
    refine Thn.ret ?_
    refine Ends.ret [2] rfl rfl ?_
    exact ⟨by rw [Wk.check_many (by omega)]; rfl, Ch.refl _ _⟩
  ·
    refine TC.skip ?_
    refine Thn.go ?_
    refine TC.seq ?_
    refine TC.seq ?_
    refine TC.region ?_
    refine TL.move rfl rfl ?_
    refine TL.lenSlice Try.underlying22 rfl rfl ?_
    refine TL.move rfl rfl ?_
    refine TL.done ?_
    refine Thn.go ?_
    refine TC.block ?_
    refine TC.loop1 (fun (i : Nat) => [(0, .slice ad l.length c), (8, .slice ad l.length c), (9, .int .i64 (l.length : Int)), (10, .int .i64 (i : Int))]) (fun i w' => i ≤ l.length ∧ (∀ j, j < i → Wk.good l j) ∧ Ch [] w w') (fun i => l.length - i) 0 (by repeat (first | exact trivial | refine ⟨rfl, ?_⟩)) (⟨by omega, by intro j hj; omega, Ch.refl _ _⟩) (fun i w' hH => ?_)
    obtain ⟨hi, hg, hch⟩ := hH
    refine TC.seq ?_
    refine TC.region ?_
    refine TL.lss rfl rfl rfl ?_
    refine TL.done ?_
    refine Thn.go ?_
    refine TC.seq ?_
    refine TC.condP rfl (fun h2 => ?_) (fun h2 => ?_)
    ·
      have hil : i < l.length := by omega
      obtain ⟨b1, o1, rfl, hce⟩ := recAt (ha.ch0 hch) hil
      refine TC.skip ?_
      refine Thn.go ?_
      refine TC.seq ?_
      refine TC.block ?_
      refine TC.seq ?_
      refine TC.region ?_
      refine TL.move rfl rfl ?_
      refine TL.indexAddr (i) sl22 rfl rfl (by first | rfl | omega) (by omega) rfl ?_
      refine TL.loadAgg (cl (Wk.rec l i)) ag33 rfl rfl (fun j hj => hce j hj) rfl ?_
      refine TL.alloc ze33 rfl (fun w4 hb4 hc4 hz4 => ?_)
      refine TL.assign rfl rfl ?_
      refine TL.store sz33 rfl rfl rfl hb4 (by simp [Value.cells]) (by simpa [Value.cells] using cl_one (Wk.rec l i)) (.inl rfl) (fun ws1 hbs1 hcs1 hzs1 => ?_)
      replace hbs1 : Has ws1 w'.heap.size (cl (Wk.rec l i)).toArray 33 (0, 0) := hbs1.setAll rfl
      have q1 : Ch [] w' ws1 := hc4.then1 hcs1 (Nat.le_refl _)
      have hce2 : 0 < i → ∀ w2, Ch [] ws1 w2 → ∀ j, j < 6 → w2.cell? ⟨b1, o1 + (i - 1) * 6 + j, none⟩ = (cl (Wk.rec l (i - 1)))[j]? := fun h0 w2 h2 => by obtain ⟨b', o', e, hh⟩ := recAt (i := i - 1) (((ha.ch0 hch).ch0 q1).ch0 h2) (by omega); cases e; exact hh
      have hgi : Wk.good l i ↔ Wk.may (Wk.rec l i) ∧ (¬ ((i : Int) > 0) ∨ ¬ ((Wk.rec l (i - 1)).id ≥ (Wk.rec l i).id)) := by unfold Wk.good; constructor <;> (rintro ⟨a1, a2⟩; exact ⟨a1, by omega⟩)
      refine TL.done ?_
      refine Thn.go ?_
      refine TC.cut0 ([(0, .slice (some ⟨b1, o1, none⟩) l.length c), (8, .slice (some ⟨b1, o1, none⟩) l.length c), (9, .int .i64 (l.length : Int)), (10, .int .i64 (i : Int)), (32, .bool (decide (¬ Wk.good l i)))]) (fun w3 => Ch [] ws1 w3) (fun K3 hK3 => ?_) (fun w3 hH => ?_)
      ·
        refine TC.regionQ (fun w4 => Ch [] ws1 w4) mixed0 (by kernel_rfl) (Ch.drew [] ws1) ?_
        refine TQ.via rfl rfl rfl rfl (fun w2 hw2 => TL.loadAgg (cl (Wk.rec l i)) ag33 rfl rfl (fun j _ => by rw [(hbs1.ch0 hw2).cell, Nat.zero_add, List.getElem?_toArray]) rfl (TL.done ⟨rfl, rfl⟩)) ?_
        refine TQ.call (.bool (decide (Wk.may (Wk.rec l i)))) can33 rfl rfl (fun w2 hw2 => (fn33 (Wk.rec l i) w2).mono (fun _ _ ⟨q1, q2⟩ => ⟨q1, hw2.trans0 q2⟩)) ?_
        refine TQ.em (fun e16 => ?_) (fun e16 => ?_)
        ·
          refine TQ.via rfl rfl rfl rfl (fun w2 hw2 => TL.not rfl rfl (TL.done ⟨rfl, rfl⟩)) ?_
          refine TQ.via rfl rfl rfl rfl (fun w2 hw2 => TL.move rfl rfl (TL.done ⟨rfl, rfl⟩)) ?_
          refine TQ.guardYes (d := 18) rfl rfl rfl ?_
          refine TQ.via rfl rfl rfl rfl (fun w2 hw2 => TL.move rfl rfl (TL.done ⟨rfl, rfl⟩)) ?_
          refine TQ.guardYes (d := 18) rfl rfl rfl ?_
          refine TQ.via rfl rfl rfl rfl (fun w2 hw2 => TL.gtr rfl rfl rfl (TL.done ⟨rfl, rfl⟩)) ?_
          refine TQ.em (fun e20 => ?_) (fun e20 => ?_)
          ·
            refine TQ.guardYes (d := 18) rfl rfl rfl ?_
            refine TQ.via rfl rfl rfl rfl (fun w2 hw2 => TL.move rfl rfl (TL.done ⟨rfl, rfl⟩)) ?_
            refine TQ.guardYes (d := 21) rfl rfl rfl ?_
            refine TQ.via rfl rfl rfl rfl (fun w2 hw2 => TL.move rfl rfl (TL.done ⟨rfl, rfl⟩)) ?_
            refine TQ.guardYes (d := 21) rfl rfl rfl ?_
            refine TQ.via rfl rfl rfl rfl (fun w2 hw2 => TL.move rfl rfl (TL.done ⟨rfl, rfl⟩)) ?_
            refine TQ.guardYes (d := 21) rfl rfl rfl ?_
            refine TQ.via rfl rfl rfl rfl (fun w2 hw2 => TL.sub_i64 rfl rfl (by omega) (by omega) rfl (TL.done ⟨rfl, rfl⟩)) ?_
            refine TQ.guardYes (d := 21) rfl rfl rfl ?_
            refine TQ.via rfl rfl rfl rfl (fun w2 hw2 => TL.indexAddr (i - 1) sl22 rfl rfl (by first | rfl | omega) (by omega) rfl (TL.done ⟨rfl, rfl⟩)) ?_
            refine TQ.guardYes (d := 21) rfl rfl rfl ?_
            refine TQ.via rfl rfl rfl rfl (fun w2 hw2 => TL.fieldAddr fd33k0 rfl rfl (TL.done ⟨rfl, rfl⟩)) ?_
            refine TQ.guardYes (d := 21) rfl rfl rfl ?_
            refine TQ.via rfl rfl rfl rfl (fun w2 hw2 => TL.load pl3 rfl ((show _ = some (Value.int .i64 (Wk.rec l (i - 1)).id) from hce2 (by omega) _ hw2 0 (by decide))) rfl (TL.done ⟨rfl, rfl⟩)) ?_
            refine TQ.guardYes (d := 21) rfl rfl rfl ?_
            refine TQ.via rfl rfl rfl rfl (fun w2 hw2 => TL.fieldAddr fd33k0 rfl rfl (TL.done ⟨rfl, rfl⟩)) ?_
            refine TQ.guardYes (d := 21) rfl rfl rfl ?_
            refine TQ.via rfl rfl rfl rfl (fun w2 hw2 => TL.load pl3 rfl ((show _ = some (Value.int .i64 (Wk.rec l i).id) from (hbs1.ch0 hw2).cell _)) rfl (TL.done ⟨rfl, rfl⟩)) ?_
            refine TQ.guardYes (d := 21) rfl rfl rfl ?_
            refine TQ.via rfl rfl rfl rfl (fun w2 hw2 => TL.geq rfl rfl rfl (TL.done ⟨rfl, rfl⟩)) ?_
            refine TQ.guardYes (d := 18) rfl rfl rfl ?_
            refine TQ.via rfl rfl rfl rfl (fun w2 hw2 => TL.pickT rfl rfl rfl rfl (TL.done ⟨rfl, rfl⟩)) ?_
            refine TQ.via rfl rfl rfl rfl (fun w2 hw2 => TL.pickF rfl rfl rfl rfl (TL.done ⟨rfl, rfl⟩)) ?_
            refine TQ.done (fun w2 hw2 => ?_)
            exact hK3  _ _ (by repeat (first | exact trivial | refine ⟨rfl, ?_⟩ | refine ⟨congrArg (fun b => some (Value.bool b)) (by first | exact (decide_eq_true (by grind)).symm | exact (decide_eq_false (by grind)).symm | exact decide_eq_decide.2 (by grind) | exact decide_eq_true (by grind) | exact decide_eq_false (by grind) | (exfalso; grind)), ?_⟩)) (hw2)
          ·
            refine TQ.guardYes (d := 18) rfl rfl rfl ?_
            refine TQ.via rfl rfl rfl rfl (fun w2 hw2 => TL.move rfl rfl (TL.done ⟨rfl, rfl⟩)) ?_
            refine TQ.guardNo (d := 21) rfl rfl rfl rfl rfl ?_
            refine TQ.guardNo (d := 21) rfl rfl rfl rfl rfl ?_
            refine TQ.guardNo (d := 21) rfl rfl rfl rfl rfl ?_
            refine TQ.guardNo (d := 21) rfl rfl rfl rfl rfl ?_
            refine TQ.guardNo (d := 21) rfl rfl rfl rfl rfl ?_
            refine TQ.guardNo (d := 21) rfl rfl rfl rfl rfl ?_
            refine TQ.guardNo (d := 21) rfl rfl rfl rfl rfl ?_
            refine TQ.guardNo (d := 21) rfl rfl rfl rfl rfl ?_
            refine TQ.guardNo (d := 21) rfl rfl rfl rfl rfl ?_
            refine TQ.guardYes (d := 18) rfl rfl rfl ?_
            refine TQ.via rfl rfl rfl rfl (fun w2 hw2 => TL.pickF rfl rfl rfl rfl (TL.done ⟨rfl, rfl⟩)) ?_
            refine TQ.via rfl rfl rfl rfl (fun w2 hw2 => TL.pickF rfl rfl rfl rfl (TL.done ⟨rfl, rfl⟩)) ?_
            refine TQ.done (fun w2 hw2 => ?_)
            exact hK3  _ _ (by repeat (first | exact trivial | refine ⟨rfl, ?_⟩ | refine ⟨congrArg (fun b => some (Value.bool b)) (by first | exact (decide_eq_true (by grind)).symm | exact (decide_eq_false (by grind)).symm | exact decide_eq_decide.2 (by grind) | exact decide_eq_true (by grind) | exact decide_eq_false (by grind) | (exfalso; grind)), ?_⟩)) (hw2)
        ·
          refine TQ.via rfl rfl rfl rfl (fun w2 hw2 => TL.not rfl rfl (TL.done ⟨rfl, rfl⟩)) ?_
          refine TQ.via rfl rfl rfl rfl (fun w2 hw2 => TL.move rfl rfl (TL.done ⟨rfl, rfl⟩)) ?_
          refine TQ.guardNo (d := 18) rfl rfl rfl rfl rfl ?_
          refine TQ.guardNo (d := 18) rfl rfl rfl rfl rfl ?_
          refine TQ.guardNo (d := 18) rfl rfl rfl rfl rfl ?_
          refine TQ.guardUndef (d := 21) rfl rfl rfl rfl ?_
          refine TQ.guardUndef (d := 21) rfl rfl rfl rfl ?_
          refine TQ.guardUndef (d := 21) rfl rfl rfl rfl ?_
          refine TQ.guardUndef (d := 21) rfl rfl rfl rfl ?_
          refine TQ.guardUndef (d := 21) rfl rfl rfl rfl ?_
          refine TQ.guardUndef (d := 21) rfl rfl rfl rfl ?_
          refine TQ.guardUndef (d := 21) rfl rfl rfl rfl ?_
          refine TQ.guardUndef (d := 21) rfl rfl rfl rfl ?_
          refine TQ.guardUndef (d := 21) rfl rfl rfl rfl ?_
          refine TQ.guardNo (d := 18) rfl rfl rfl rfl rfl ?_
          refine TQ.via rfl rfl rfl rfl (fun w2 hw2 => TL.pickT rfl rfl rfl rfl (TL.done ⟨rfl, rfl⟩)) ?_
          refine TQ.done (fun w2 hw2 => ?_)
          exact hK3  _ _ (by repeat (first | exact trivial | refine ⟨rfl, ?_⟩ | refine ⟨congrArg (fun b => some (Value.bool b)) (by first | exact (decide_eq_true (by grind)).symm | exact (decide_eq_false (by grind)).symm | exact decide_eq_decide.2 (by grind) | exact decide_eq_true (by grind) | exact decide_eq_false (by grind) | (exfalso; grind)), ?_⟩)) (hw2)
      ·
        refine TC.condP rfl (fun h6 => ?_) (fun h6 => ?_)
        ·
          refine TC.seq ?_
          refine TC.region ?_
          refine TL.assign rfl rfl ?_
          refine TL.done ?_
          refine Thn.go ?_
          refine TC.ret ?_
          refine Blk.ret ?_
          refine Thn.ret ?_
          refine Lp.ret ?_
          refine Blk.ret ?_
          refine Thn.ret ?_
          refine Ends.ret [2] rfl rfl ?_
          exact ⟨by rw [Wk.check_bad (by omega) hil (by assumption)]; rfl, (hch.trans0 q1).trans0 hH⟩
        ·
          refine TC.skip ?_
          refine Blk.go ?_
          refine Thn.go ?_
          refine TC.region ?_
          refine TL.add_i64 rfl rfl (by omega) (by omega) rfl ?_
          refine TL.move rfl rfl ?_
          refine TL.done ?_
          refine Lp.go (i + 1) (by repeat (first | exact trivial | refine ⟨rfl, ?_⟩)) ?_ (by first | omega | (dsimp only; omega))
          refine ⟨by omega, fun j hj => ?_, (hch.trans0 q1).trans0 hH⟩
          rcases Nat.lt_or_ge j i with h | h
          · exact hg j h
          · rw [show j = i by omega]; exact Decidable.not_not.1 (by assumption)
    ·
      have hil : i = l.length := by omega
      subst hil
      refine TC.exit ?_
      refine Thn.exit ?_
      refine Lp.exit ?_
      refine Blk.hit ?_
      refine Thn.go ?_
      refine TC.seq ?_
      refine TC.region ?_
      refine TL.assign rfl rfl ?_
      refine TL.done ?_
      refine Thn.go ?_
      refine TC.ret ?_
      refine Ends.ret [2] rfl rfl ?_
      exact ⟨by rw [Wk.check_ok (by omega) hg]; rfl, hch⟩

theorem fn26 (a : Value) (l : List Wk.Work) (w : World) (ha : Rd w a 6 l.length (l.flatMap cl)) : Rets Try.prog 26 #[a] w (fun v w' => v = .int .i64 (Wk.checkE l : Int) ∧ Ch [] w w') := by
  obtain ⟨ad, c, rfl, _⟩ := ha.shape
  have hmx : l.length ≤ 9223372036854775807 := ha.nlt
  refine Rets.of (n := 37) (vs := [_]) Try.func26 rfl rfl rfl ?_
  refine TC.seq ?_
  refine TC.region ?_
  refine TL.assign rfl rfl ?_
  refine TL.done ?_
  refine Thn.go ?_
  refine TC.seq ?_
  refine TC.seq ?_
  refine TC.region ?_
  refine TL.move rfl rfl ?_
  refine TL.lenSlice Try.underlying22 rfl rfl ?_
  refine TL.gtr rfl rfl rfl ?_
  refine TL.done ?_
  refine Thn.go ?_
  refine TC.condP rfl (fun h1 => ?_) (fun h1 => ?_)
  ·
    refine TC.seq ?_
    refine TC.region ?_
    refine TL.assign rfl rfl ?_
    refine TL.done ?_
    refine Thn.go ?_
    refine TC.ret ?_
    refine Thn.ret ?_
    refine Ends.ret [2] rfl rfl ?_
    exact ⟨by rw [Wk.check_many (by omega)]; rfl, Ch.refl _ _⟩
  ·
    refine TC.skip ?_
    refine Thn.go ?_
    refine TC.seq ?_
    refine TC.seq ?_
    refine TC.region ?_
    refine TL.assign rfl rfl ?_
    refine TL.done ?_
    refine Thn.go ?_
    refine TC.block ?_
    refine TC.loop1 (fun (i : Nat) => [(0, .slice ad l.length c), (3, .int .i64 (i : Int))]) (fun i w' => i ≤ l.length ∧ (∀ j, j < i → Wk.good l j) ∧ Ch [] w w') (fun i => l.length - i) 0 (by repeat (first | exact trivial | refine ⟨rfl, ?_⟩)) (⟨by omega, by intro j hj; omega, Ch.refl _ _⟩) (fun i w' hH => ?_)
    obtain ⟨hi, hg, hch⟩ := hH
    refine TC.seq ?_
    refine TC.seq ?_
    refine TC.region ?_
    refine TL.move rfl rfl ?_
    refine TL.move rfl rfl ?_
    refine TL.lenSlice Try.underlying22 rfl rfl ?_
    refine TL.lss rfl rfl rfl ?_
    refine TL.done ?_
    refine Thn.go ?_
    refine TC.condP rfl (fun h2 => ?_) (fun h2 => ?_)
    ·
      have hil : i < l.length := by omega
      obtain ⟨b1, o1, rfl, _⟩ := recAt (ha.ch0 hch) hil
      have hce : ∀ w2, Ch [] w' w2 → ∀ j, j < 6 → w2.cell? ⟨b1, o1 + i * 6 + j, none⟩ = (cl (Wk.rec l i))[j]? := fun w2 h2 => by obtain ⟨b', o', e, hh⟩ := recAt (i := i) ((ha.ch0 hch).ch0 h2) (by omega); cases e; exact hh
      have hce2 : 0 < i → ∀ w2, Ch [] w' w2 → ∀ j, j < 6 → w2.cell? ⟨b1, o1 + (i - 1) * 6 + j, none⟩ = (cl (Wk.rec l (i - 1)))[j]? := fun h0 w2 h2 => by obtain ⟨b', o', e, hh⟩ := recAt (i := i - 1) ((ha.ch0 hch).ch0 h2) (by omega); cases e; exact hh
      have hgi : Wk.good l i ↔ Wk.may (Wk.rec l i) ∧ (¬ ((i : Int) > 0) ∨ ¬ ((Wk.rec l i).id ≤ (Wk.rec l (i - 1)).id)) := by unfold Wk.good; constructor <;> (rintro ⟨a1, a2⟩; exact ⟨a1, by omega⟩)
      refine TC.skip ?_
      refine Thn.go ?_
      refine TC.seq ?_
      refine TC.block ?_
      refine TC.cut0 ([(0, .slice (some ⟨b1, o1, none⟩) l.length c), (3, .int .i64 (i : Int)), (36, .bool (decide (¬ Wk.good l i)))]) (fun w3 => Ch [] w' w3) (fun K3 hK3 => ?_) (fun w3 hH => ?_)
      ·
        refine TC.regionQ (fun w4 => Ch [] w' w4) mixed0 (by kernel_rfl) (Ch.drew [] w') ?_
        refine TQ.via rfl rfl rfl rfl (fun w2 hw2 => TL.move rfl rfl (TL.done ⟨rfl, rfl⟩)) ?_
        refine TQ.via rfl rfl rfl rfl (fun w2 hw2 => TL.move rfl rfl (TL.done ⟨rfl, rfl⟩)) ?_
        refine TQ.via rfl rfl rfl rfl (fun w2 hw2 => TL.indexAddr (i) sl22 rfl rfl (by first | rfl | omega) (by omega) rfl (TL.done ⟨rfl, rfl⟩)) ?_
        refine TQ.via rfl rfl rfl rfl (fun w2 hw2 => TL.loadAgg (cl (Wk.rec l i)) ag33 rfl rfl (fun j hj => hce _ hw2 j hj) rfl (TL.done ⟨rfl, rfl⟩)) ?_
        refine TQ.call (.bool (decide (Wk.may (Wk.rec l i)))) can34 rfl rfl (fun w2 hw2 => (fn34 (Wk.rec l i) w2).mono (fun _ _ ⟨q1, q2⟩ => ⟨q1, hw2.trans0 q2⟩)) ?_
        refine TQ.em (fun e17 => ?_) (fun e17 => ?_)
        ·
          refine TQ.via rfl rfl rfl rfl (fun w2 hw2 => TL.not rfl rfl (TL.done ⟨rfl, rfl⟩)) ?_
          refine TQ.via rfl rfl rfl rfl (fun w2 hw2 => TL.move rfl rfl (TL.done ⟨rfl, rfl⟩)) ?_
          refine TQ.guardYes (d := 19) rfl rfl rfl ?_
          refine TQ.via rfl rfl rfl rfl (fun w2 hw2 => TL.move rfl rfl (TL.done ⟨rfl, rfl⟩)) ?_
          refine TQ.guardYes (d := 19) rfl rfl rfl ?_
          refine TQ.via rfl rfl rfl rfl (fun w2 hw2 => TL.gtr rfl rfl rfl (TL.done ⟨rfl, rfl⟩)) ?_
          refine TQ.em (fun e21 => ?_) (fun e21 => ?_)
          ·
            refine TQ.guardYes (d := 19) rfl rfl rfl ?_
            refine TQ.via rfl rfl rfl rfl (fun w2 hw2 => TL.move rfl rfl (TL.done ⟨rfl, rfl⟩)) ?_
            refine TQ.guardYes (d := 22) rfl rfl rfl ?_
            refine TQ.via rfl rfl rfl rfl (fun w2 hw2 => TL.move rfl rfl (TL.done ⟨rfl, rfl⟩)) ?_
            refine TQ.guardYes (d := 22) rfl rfl rfl ?_
            refine TQ.via rfl rfl rfl rfl (fun w2 hw2 => TL.move rfl rfl (TL.done ⟨rfl, rfl⟩)) ?_
            refine TQ.guardYes (d := 22) rfl rfl rfl ?_
            refine TQ.via rfl rfl rfl rfl (fun w2 hw2 => TL.indexAddr (i) sl22 rfl rfl (by first | rfl | omega) (by omega) rfl (TL.done ⟨rfl, rfl⟩)) ?_
            refine TQ.guardYes (d := 22) rfl rfl rfl ?_
            refine TQ.via rfl rfl rfl rfl (fun w2 hw2 => TL.fieldAddr fd33k0 rfl rfl (TL.done ⟨rfl, rfl⟩)) ?_
            refine TQ.guardYes (d := 22) rfl rfl rfl ?_
            refine TQ.via rfl rfl rfl rfl (fun w2 hw2 => TL.load pl3 rfl ((show _ = some (Value.int .i64 (Wk.rec l i).id) from hce _ hw2 0 (by decide))) rfl (TL.done ⟨rfl, rfl⟩)) ?_
            refine TQ.guardYes (d := 22) rfl rfl rfl ?_
            refine TQ.via rfl rfl rfl rfl (fun w2 hw2 => TL.move rfl rfl (TL.done ⟨rfl, rfl⟩)) ?_
            refine TQ.guardYes (d := 22) rfl rfl rfl ?_
            refine TQ.via rfl rfl rfl rfl (fun w2 hw2 => TL.move rfl rfl (TL.done ⟨rfl, rfl⟩)) ?_
            refine TQ.guardYes (d := 22) rfl rfl rfl ?_
            refine TQ.via rfl rfl rfl rfl (fun w2 hw2 => TL.sub_i64 rfl rfl (by omega) (by omega) rfl (TL.done ⟨rfl, rfl⟩)) ?_
            refine TQ.guardYes (d := 22) rfl rfl rfl ?_
            refine TQ.via rfl rfl rfl rfl (fun w2 hw2 => TL.indexAddr (i - 1) sl22 rfl rfl (by first | rfl | omega) (by omega) rfl (TL.done ⟨rfl, rfl⟩)) ?_
            refine TQ.guardYes (d := 22) rfl rfl rfl ?_
            refine TQ.via rfl rfl rfl rfl (fun w2 hw2 => TL.fieldAddr fd33k0 rfl rfl (TL.done ⟨rfl, rfl⟩)) ?_
            refine TQ.guardYes (d := 22) rfl rfl rfl ?_
            refine TQ.via rfl rfl rfl rfl (fun w2 hw2 => TL.load pl3 rfl ((show _ = some (Value.int .i64 (Wk.rec l (i - 1)).id) from hce2 (by omega) _ hw2 0 (by decide))) rfl (TL.done ⟨rfl, rfl⟩)) ?_
            refine TQ.guardYes (d := 22) rfl rfl rfl ?_
            refine TQ.via rfl rfl rfl rfl (fun w2 hw2 => TL.leq rfl rfl rfl (TL.done ⟨rfl, rfl⟩)) ?_
            refine TQ.guardYes (d := 19) rfl rfl rfl ?_
            refine TQ.via rfl rfl rfl rfl (fun w2 hw2 => TL.pickT rfl rfl rfl rfl (TL.done ⟨rfl, rfl⟩)) ?_
            refine TQ.via rfl rfl rfl rfl (fun w2 hw2 => TL.pickF rfl rfl rfl rfl (TL.done ⟨rfl, rfl⟩)) ?_
            refine TQ.done (fun w2 hw2 => ?_)
            exact hK3  _ _ (by repeat (first | exact trivial | refine ⟨rfl, ?_⟩ | refine ⟨congrArg (fun b => some (Value.bool b)) (by first | exact (decide_eq_true (by grind)).symm | exact (decide_eq_false (by grind)).symm | exact decide_eq_decide.2 (by grind) | exact decide_eq_true (by grind) | exact decide_eq_false (by grind) | (exfalso; grind)), ?_⟩)) (hw2)
          ·
            refine TQ.guardYes (d := 19) rfl rfl rfl ?_
            refine TQ.via rfl rfl rfl rfl (fun w2 hw2 => TL.move rfl rfl (TL.done ⟨rfl, rfl⟩)) ?_
            refine TQ.guardNo (d := 22) rfl rfl rfl rfl rfl ?_
            refine TQ.guardNo (d := 22) rfl rfl rfl rfl rfl ?_
            refine TQ.guardNo (d := 22) rfl rfl rfl rfl rfl ?_
            refine TQ.guardNo (d := 22) rfl rfl rfl rfl rfl ?_
            refine TQ.guardNo (d := 22) rfl rfl rfl rfl rfl ?_
            refine TQ.guardNo (d := 22) rfl rfl rfl rfl rfl ?_
            refine TQ.guardNo (d := 22) rfl rfl rfl rfl rfl ?_
            refine TQ.guardNo (d := 22) rfl rfl rfl rfl rfl ?_
            refine TQ.guardNo (d := 22) rfl rfl rfl rfl rfl ?_
            refine TQ.guardNo (d := 22) rfl rfl rfl rfl rfl ?_
            refine TQ.guardNo (d := 22) rfl rfl rfl rfl rfl ?_
            refine TQ.guardNo (d := 22) rfl rfl rfl rfl rfl ?_
            refine TQ.guardYes (d := 19) rfl rfl rfl ?_
            refine TQ.via rfl rfl rfl rfl (fun w2 hw2 => TL.pickF rfl rfl rfl rfl (TL.done ⟨rfl, rfl⟩)) ?_
            refine TQ.via rfl rfl rfl rfl (fun w2 hw2 => TL.pickF rfl rfl rfl rfl (TL.done ⟨rfl, rfl⟩)) ?_
            refine TQ.done (fun w2 hw2 => ?_)
            exact hK3  _ _ (by repeat (first | exact trivial | refine ⟨rfl, ?_⟩ | refine ⟨congrArg (fun b => some (Value.bool b)) (by first | exact (decide_eq_true (by grind)).symm | exact (decide_eq_false (by grind)).symm | exact decide_eq_decide.2 (by grind) | exact decide_eq_true (by grind) | exact decide_eq_false (by grind) | (exfalso; grind)), ?_⟩)) (hw2)
        ·
          refine TQ.via rfl rfl rfl rfl (fun w2 hw2 => TL.not rfl rfl (TL.done ⟨rfl, rfl⟩)) ?_
          refine TQ.via rfl rfl rfl rfl (fun w2 hw2 => TL.move rfl rfl (TL.done ⟨rfl, rfl⟩)) ?_
          refine TQ.guardNo (d := 19) rfl rfl rfl rfl rfl ?_
          refine TQ.guardNo (d := 19) rfl rfl rfl rfl rfl ?_
          refine TQ.guardNo (d := 19) rfl rfl rfl rfl rfl ?_
          refine TQ.guardUndef (d := 22) rfl rfl rfl rfl ?_
          refine TQ.guardUndef (d := 22) rfl rfl rfl rfl ?_
          refine TQ.guardUndef (d := 22) rfl rfl rfl rfl ?_
          refine TQ.guardUndef (d := 22) rfl rfl rfl rfl ?_
          refine TQ.guardUndef (d := 22) rfl rfl rfl rfl ?_
          refine TQ.guardUndef (d := 22) rfl rfl rfl rfl ?_
          refine TQ.guardUndef (d := 22) rfl rfl rfl rfl ?_
          refine TQ.guardUndef (d := 22) rfl rfl rfl rfl ?_
          refine TQ.guardUndef (d := 22) rfl rfl rfl rfl ?_
          refine TQ.guardUndef (d := 22) rfl rfl rfl rfl ?_
          refine TQ.guardUndef (d := 22) rfl rfl rfl rfl ?_
          refine TQ.guardUndef (d := 22) rfl rfl rfl rfl ?_
          refine TQ.guardNo (d := 19) rfl rfl rfl rfl rfl ?_
          refine TQ.via rfl rfl rfl rfl (fun w2 hw2 => TL.pickT rfl rfl rfl rfl (TL.done ⟨rfl, rfl⟩)) ?_
          refine TQ.done (fun w2 hw2 => ?_)
          exact hK3  _ _ (by repeat (first | exact trivial | refine ⟨rfl, ?_⟩ | refine ⟨congrArg (fun b => some (Value.bool b)) (by first | exact (decide_eq_true (by grind)).symm | exact (decide_eq_false (by grind)).symm | exact decide_eq_decide.2 (by grind) | exact decide_eq_true (by grind) | exact decide_eq_false (by grind) | (exfalso; grind)), ?_⟩)) (hw2)
      ·
        refine TC.condP rfl (fun h6 => ?_) (fun h6 => ?_)
        ·
          refine TC.seq ?_
          refine TC.region ?_
          refine TL.assign rfl rfl ?_
          refine TL.done ?_
          refine Thn.go ?_
          refine TC.ret ?_
          refine Blk.ret ?_
          refine Thn.ret ?_
          refine Lp.ret ?_
          refine Blk.ret ?_
          refine Thn.ret ?_
          refine Ends.ret [2] rfl rfl ?_
          exact ⟨by rw [Wk.check_bad (by omega) hil (by assumption)]; rfl, hch.trans0 hH⟩
        ·
          refine TC.skip ?_
          refine Blk.go ?_
          refine Thn.go ?_
          refine TC.region ?_
          refine TL.move rfl rfl ?_
          refine TL.add_i64 rfl rfl (by omega) (by omega) rfl ?_
          refine TL.assign rfl rfl ?_
          refine TL.done ?_
          refine Lp.go (i + 1) (by repeat (first | exact trivial | refine ⟨rfl, ?_⟩)) ?_ (by first | omega | (dsimp only; omega))
          refine ⟨by omega, fun j hj => ?_, hch.trans0 hH⟩
          rcases Nat.lt_or_ge j i with h | h
          · exact hg j h
          · rw [show j = i by omega]; exact Decidable.not_not.1 (by assumption)
    ·
      have hil : i = l.length := by omega
      subst hil
      refine TC.exit ?_
      refine Thn.exit ?_
      refine Lp.exit ?_
      refine Blk.hit ?_
      refine Thn.go ?_
      refine TC.seq ?_
      refine TC.region ?_
      refine TL.assign rfl rfl ?_
      refine TL.done ?_
      refine Thn.go ?_
      refine TC.ret ?_
      refine Ends.ret [2] rfl rfl ?_
      exact ⟨by rw [Wk.check_ok (by omega) hg]; rfl, hch⟩

/-- A piece on offer. -/
def offered (k : Int) : Wk.Work := ⟨k, 3, [99, 104, 101, 99, 107], [99, 108, 101, 114, 107], 1, []⟩

theorem fn27 (k : Int) (w : World) : Rets Try.prog 27 #[.int .i64 k] w (fun v w' => v = .agg (cl (offered k)).toArray ∧ Ch [] w w') := by
  refine Rets.of (n := 5) (vs := [_]) Try.func27 rfl rfl rfl ?_
  refine TC.seq ?_
  refine TC.region ?_
  refine TL.alloc ze33 rfl (fun w2 hb2 hc2 hz2 => ?_)
  refine TL.done ?_
  refine Thn.go ?_
  refine TC.seq ?_
  refine TC.region ?_
  refine TL.move rfl rfl ?_
  refine TL.buildRec [0, 1, 2, 3, 4] [.tmp 3, .const (Value.int IntKind.i64 3), .const (Value.string {data := #[99, 104, 101, 99, 107]}), .const (Value.string {data := #[99, 108, 101, 114, 107]}), .const (Value.int IntKind.u8 1)] (cl (offered k)) rfl rfl (by kernel_rfl) rfl ?_
  refine TL.store sz33 rfl rfl rfl hb2 (by simp [Value.cells]) (by simpa [Value.cells] using cl_one (offered k)) (.inl rfl) (fun ws1 hbs1 hcs1 hzs1 => ?_)
  replace hbs1 : Has ws1 w.heap.size (cl (offered k)).toArray 33 (0, 0) := hbs1.setAll rfl
  refine TL.done ?_
  refine Thn.go ?_
  refine TC.ret ?_
  refine Ends.cell (cl (offered k)) (.inl rfl) rfl ag33 rfl rfl (fun j _ => by rw [hbs1.cell, Nat.zero_add, List.getElem?_toArray]) ?_
  exact ⟨rfl, hc2.then1 hcs1 (Nat.le_refl _)⟩

theorem fn30 (a : Value) (l : List Wk.Work) (hl : l.length ≤ 100000) (w : World) (ha : Rd w a 6 l.length (l.flatMap cl)) : Rets Try.prog 30 #[a] w (fun v w' => Own w' w.heap.size 33 6 v l.length (l.flatMap cl) ∧ Ch [] w w') := by
  obtain ⟨ad, c, rfl, hnil⟩ := ha.shape
  have hmm : maxLen = 9223372036854775807 := rfl
  refine Rets.of (n := 8) (vs := [_]) Try.func30 rfl rfl rfl ?_
  refine TC.seq ?_
  refine TC.region ?_
  refine TL.assign rfl rfl ?_
  refine TL.done ?_
  refine Thn.go ?_
  refine TC.seq ?_
  refine TC.seq ?_
  refine TC.region ?_
  refine TL.move rfl rfl ?_
  refine TL.eqlNil Try.underlying22 rfl rfl rfl ?_
  refine TL.done ?_
  refine Thn.go ?_
  refine TC.condP rfl (fun h1 => ?_) (fun h1 => ?_)
  ·
    have h0 : l = [] := List.eq_nil_of_length_eq_zero (hnil (by assumption))
    subst h0
    refine TC.seq ?_
    refine TC.region ?_
    refine TL.assign rfl rfl ?_
    refine TL.done ?_
    refine Thn.go ?_
    refine TC.ret ?_
    refine Thn.ret ?_
    refine Ends.ret [2] rfl rfl ?_
    exact ⟨World.ownsRow_nil _ _ _ _, Ch.refl _ _⟩
  ·
    refine TC.skip ?_
    refine Thn.go ?_
    refine TC.seq ?_
    refine TC.region ?_
    refine TL.buildSlice [] sl22 rfl rfl rfl (by decide) (by first | simp [Value.cells]; done | simp [Value.cells, cl_len]; done) rfl (fun w5 hb5 hc5 hz5 => ?_)
    have ho5 : Own w5 w.heap.size 33 6 (.slice (some ⟨w.heap.size, 0, none⟩) 0 0) 0 [] := Own.ofHas (cs := []) hb5 (Nat.le_refl _) (by simp) (by simp)
    refine TL.move rfl rfl ?_
    refine TL.append sl22 rfl rfl rfl (ho5) (News.ofRd Try.underlying22 (ha.ch0 hc5) (rows_one l)) (by omega) (by omega) (by omega) (fun v7 w7 hv7 hc7 _ => ?_)
    refine TL.assign rfl rfl ?_
    refine TL.done ?_
    refine Thn.go ?_
    refine TC.ret ?_
    refine Ends.ret [2] rfl rfl ?_
    exact ⟨by rw [Nat.zero_add] at hv7; exact hv7, ho5.thenCh hc5 hc7⟩

