/-
  Walks through the given program: each theorem fnN says what the call of function N of the translation hands back, for all arguments that its premises describe, and that nothing that was there has turned.
-/
import Derived.Test.YtemfaondlhglbaaT2
namespace Go.Proofs.Ytemfaondlhglbaa
open Go.Lane
theorem can25 : Callable Try.prog 25 := ⟨Try.f25, Try.func25, by kernel_rfl, rfl⟩
theorem can26 : Callable Try.prog 26 := ⟨Try.f26, Try.func26, by kernel_rfl, rfl⟩
theorem can28 : Callable Try.prog 28 := ⟨Try.f28, Try.func28, by kernel_rfl, rfl⟩
theorem can29 : Callable Try.prog 29 := ⟨Try.f29, Try.func29, by kernel_rfl, rfl⟩
theorem can34 : Callable Try.prog 34 := ⟨Try.f34, Try.func34, by kernel_rfl, rfl⟩
theorem can39 : Callable Try.prog 39 := ⟨Try.f39, Try.func39, by kernel_rfl, rfl⟩
theorem sz27 : (Try.prog.info? 27).map (·.size) = some 5 := by kernel_rfl
theorem ze27 : ZeroT Try.prog 27 (.agg #[.int .i64 0, .int .i64 0, .int .i64 0, .string ⟨#[]⟩, .string ⟨#[]⟩]) := by unfold ZeroT; kernel_rfl
theorem prefixRd {ad : Option Addr} {c i : Nat} {l : List Tm.Timer} {w : World} (h : Rd w (.slice ad l.length c) 5 l.length (l.flatMap cl)) (hi : i ≤ l.length) : Rd w (.slice ad i c) 5 (l.take i).length ((l.take i).flatMap cl) := by
  have := h.to (j := i) hi
  rw [rows_take cl_len] at this
  exact Rd.recs this (l.take i) (by rw [List.length_take]; omega) rfl
theorem suffixRd {ad : Option Addr} {c i : Nat} {l : List Tm.Timer} {w : World} (h : Rd w (.slice ad l.length c) 5 l.length (l.flatMap cl)) (hi : i ≤ l.length) : Rd w (.slice (adv ad c i 5) (l.length - i) (c - i)) 5 (l.drop i).length ((l.drop i).flatMap cl) := by
  have := h.behind (i := i) hi
  rw [rows_drop cl_len] at this
  exact Rd.recs this (l.drop i) (by rw [List.length_drop]) rfl

theorem fn14 (a : Value) (l : List Tm.Timer) (w : World) (ha : Rd w a 5 l.length (l.flatMap cl)) : Rets Try.prog 14 #[a] w (fun v w' => v = .int .i64 (Tm.checkE l : Int) ∧ Ch [] w w') := by
  obtain ⟨ad, c, rfl, _⟩ := ha.shape
  have hmx : l.length ≤ 9223372036854775807 := ha.nlt
  have hcap := ha.cap
  refine Rets.of (n := 41) (vs := [_]) Try.func14 rfl rfl rfl ?_
  refine TC.seq ?_
  refine TC.region ?_
  refine TL.assign rfl rfl ?_
  refine TL.done ?_
  refine Thn.go ?_
  refine TC.seq ?_
  refine TC.seq ?_
  refine TC.region ?_
  refine TL.move rfl rfl ?_
  refine TL.lenSlice Try.underlying25 rfl rfl ?_
  refine TL.gtr rfl rfl rfl ?_
  refine TL.done ?_
  refine Thn.go ?_
  refine TC.condP rfl (fun h1 => ?_) (fun h1 => ?_)
  ·
    refine TC.seq ?_
    refine TC.region ?_
    refine TL.assign rfl rfl ?_
    refine TL.done ?_
    refine Thn.go ?_
    refine TC.ret ?_
    refine Thn.ret ?_
    refine Ends.ret [2] rfl rfl ?_
    exact ⟨by rw [Tm.check_many (by omega)]; rfl, Ch.refl _ _⟩
  ·
    refine TC.skip ?_
    refine Thn.go ?_
    refine TC.seq ?_
    refine TC.seq ?_
    refine TC.region ?_
    refine TL.move rfl rfl ?_
    refine TL.lenSlice Try.underlying25 rfl rfl ?_
    refine TL.move rfl rfl ?_
    refine TL.done ?_
    refine Thn.go ?_
    refine TC.block ?_
    refine TC.loop1 (fun (i : Nat) => [(0, .slice ad l.length c), (8, .slice ad l.length c), (9, .int .i64 (l.length : Int)), (10, .int .i64 (i : Int))]) (fun i w' => i ≤ l.length ∧ (∀ j, j < i → Tm.good l j) ∧ Ch [] w w') (fun i => l.length - i) 0 (by repeat (first | exact trivial | refine ⟨rfl, ?_⟩)) (⟨by omega, by intro j hj; omega, Ch.refl _ _⟩) (fun i w' hH => ?_)
    obtain ⟨hi, hg, hch⟩ := hH
    refine TC.seq ?_
    refine TC.region ?_
    refine TL.lss rfl rfl rfl ?_
    refine TL.done ?_
    refine Thn.go ?_
    refine TC.seq ?_
    refine TC.condP rfl (fun h2 => ?_) (fun h2 => ?_)
    ·
      have hil : i < l.length := by omega
      obtain ⟨b1, o1, rfl, hce⟩ := recAt (ha.ch0 hch) hil
      obtain ⟨x, hx⟩ : ∃ x, Tm.rec l i = x := ⟨_, rfl⟩
      rw [hx] at hce
      refine TC.skip ?_
      refine Thn.go ?_
      refine TC.seq ?_
      refine TC.block ?_
      refine TC.seq ?_
      refine TC.region ?_
      refine TL.move rfl rfl ?_
      refine TL.indexAddr (i) sl25 rfl rfl (by first | rfl | omega) (by omega) rfl ?_
      refine TL.loadAgg (cl x) ag27 rfl rfl (fun j hj => hce j hj) rfl ?_
      refine TL.alloc ze27 rfl (fun w4 hb4 hc4 hz4 => ?_)
      refine TL.assign rfl rfl ?_
      refine TL.store sz27 rfl rfl rfl hb4 (by simp [Value.cells]) (by simpa [Value.cells] using cl_one x) (.inl rfl) (fun ws1 hbs1 hcs1 hzs1 => ?_)
      replace hbs1 : Has ws1 w'.heap.size (cl x).toArray 27 (0, 0) := hbs1.setAll rfl
      have q1 : Ch [] w' ws1 := hc4.then1 hcs1 (Nat.le_refl _)
      have hrd : ∀ w2, Ch [] ws1 w2 → Rd w2 (.slice (some ⟨b1, o1, none⟩) l.length c) 5 l.length (l.flatMap cl) := fun w2 h2 => ((ha.ch0 hch).ch0 q1).ch0 h2
      have hce2 : 0 < i → ∀ w2, Ch [] ws1 w2 → ∀ j, j < 5 → w2.cell? ⟨b1, o1 + (i - 1) * 5 + j, none⟩ = (cl (Tm.rec l (i - 1)))[j]? := fun h0 w2 h2 => by obtain ⟨b', o', e, hh⟩ := recAt (i := i - 1) (hrd w2 h2) (by omega); cases e; exact hh
      have hgi : Tm.good l i ↔ Tm.may x ∧ ¬ Tm.has (l.take i) x.seq ∧ (¬ ((i : Int) > 0) ∨ Tm.ahead (Tm.rec l (i - 1)) x) := by
        unfold Tm.good
        rw [hx]
        constructor
        · rintro ⟨a1, a2, a3⟩; exact ⟨a1, a2, a3.elim (fun h => .inl (by omega)) .inr⟩
        · rintro ⟨a1, a2, a3⟩; exact ⟨a1, a2, a3.elim (fun h => .inl (by omega)) .inr⟩
      refine TL.done ?_
      refine Thn.go ?_
      refine TC.cut0 ([(0, .slice (some ⟨b1, o1, none⟩) l.length c), (8, .slice (some ⟨b1, o1, none⟩) l.length c), (9, .int .i64 (l.length : Int)), (10, .int .i64 (i : Int)), (39, .bool (decide (¬ Tm.good l i)))]) (fun w3 => Ch [] ws1 w3) (fun K3 hK3 => ?_) (fun w3 hH => ?_)
      ·
        refine TC.regionQ (fun w4 => Ch [] ws1 w4) mixed0 (by kernel_rfl) (Ch.drew [] ws1) ?_
        refine TQ.via rfl rfl rfl rfl (fun w2 hw2 => TL.loadAgg (cl x) ag27 rfl rfl (fun j _ => by rw [(hbs1.ch0 hw2).cell, Nat.zero_add, List.getElem?_toArray]) rfl (TL.done ⟨rfl, rfl⟩)) ?_
        refine TQ.call (.bool (decide (Tm.may x))) can28 rfl rfl (fun w2 hw2 => (fn28 x w2).mono (fun _ _ ⟨q1, q2⟩ => ⟨q1, hw2.trans0 q2⟩)) ?_
        refine TQ.em (fun e16 => ?_) (fun e16 => ?_)
        ·
          refine TQ.via rfl rfl rfl rfl (fun w2 hw2 => TL.not rfl rfl (TL.done ⟨rfl, rfl⟩)) ?_
          refine TQ.via rfl rfl rfl rfl (fun w2 hw2 => TL.move rfl rfl (TL.done ⟨rfl, rfl⟩)) ?_
          refine TQ.guardYes (d := 18) rfl rfl rfl ?_
          refine TQ.via rfl rfl rfl rfl (fun w2 hw2 => TL.move rfl rfl (TL.done ⟨rfl, rfl⟩)) ?_
          refine TQ.guardYes (d := 18) rfl rfl rfl ?_
          refine TQ.via rfl rfl rfl rfl (fun w2 hw2 => TL.move rfl rfl (TL.done ⟨rfl, rfl⟩)) ?_
          refine TQ.guardYes (d := 18) rfl rfl rfl ?_
          refine TQ.via rfl rfl rfl rfl (fun w2 hw2 => TL.sliceTo (i) sl25 rfl rfl (by first | rfl | omega) (by omega) rfl (TL.done ⟨rfl, rfl⟩)) ?_
          refine TQ.guardYes (d := 18) rfl rfl rfl ?_
          refine TQ.via rfl rfl rfl rfl (fun w2 hw2 => TL.fieldAddr fd27k1 rfl rfl (TL.done ⟨rfl, rfl⟩)) ?_
          refine TQ.guardYes (d := 18) rfl rfl rfl ?_
          refine TQ.via rfl rfl rfl rfl (fun w2 hw2 => TL.load pl3 rfl ((show _ = some (Value.int .i64 x.seq) from (hbs1.ch0 hw2).cell _)) rfl (TL.done ⟨rfl, rfl⟩)) ?_
          refine TQ.guardYes (d := 18) rfl rfl rfl ?_
          refine TQ.call (.bool (decide (Tm.has (l.take i) x.seq))) can29 rfl rfl (fun w2 hw2 => (fn29 _ (l.take i) x.seq w2 (prefixRd (hrd _ hw2) (by omega))).mono (fun _ _ ⟨q1, q2⟩ => ⟨q1, hw2.trans0 q2⟩)) ?_
          refine TQ.em (fun e24 => ?_) (fun e24 => ?_)
          ·
            refine TQ.via rfl rfl rfl rfl (fun w2 hw2 => TL.pickF rfl rfl rfl rfl (TL.done ⟨rfl, rfl⟩)) ?_
            refine TQ.via rfl rfl rfl rfl (fun w2 hw2 => TL.move rfl rfl (TL.done ⟨rfl, rfl⟩)) ?_
            refine TQ.guardNo (d := 26) rfl rfl rfl rfl rfl ?_
            refine TQ.guardNo (d := 26) rfl rfl rfl rfl rfl ?_
            refine TQ.guardNo (d := 26) rfl rfl rfl rfl rfl ?_
            refine TQ.guardUndef (d := 29) rfl rfl rfl rfl ?_
            refine TQ.guardUndef (d := 29) rfl rfl rfl rfl ?_
            refine TQ.guardUndef (d := 29) rfl rfl rfl rfl ?_
            refine TQ.guardUndef (d := 29) rfl rfl rfl rfl ?_
            refine TQ.guardUndef (d := 29) rfl rfl rfl rfl ?_
            refine TQ.guardUndef (d := 29) rfl rfl rfl rfl ?_
            refine TQ.guardUndef (d := 29) rfl rfl rfl rfl ?_
            refine TQ.guardUndef (d := 29) rfl rfl rfl rfl ?_
            refine TQ.guardNo (d := 26) rfl rfl rfl rfl rfl ?_
            refine TQ.via rfl rfl rfl rfl (fun w2 hw2 => TL.pickT rfl rfl rfl rfl (TL.done ⟨rfl, rfl⟩)) ?_
            refine TQ.done (fun w2 hw2 => ?_)
            exact hK3  _ _ (by repeat (first | exact trivial | refine ⟨rfl, ?_⟩ | refine ⟨congrArg (fun b => some (Value.bool b)) (by first | exact (decide_eq_true (by grind)).symm | exact (decide_eq_false (by grind)).symm | exact decide_eq_decide.2 (by grind) | exact decide_eq_true (by grind) | exact decide_eq_false (by grind) | (exfalso; grind)), ?_⟩)) (hw2)
          ·
            refine TQ.via rfl rfl rfl rfl (fun w2 hw2 => TL.pickF rfl rfl rfl rfl (TL.done ⟨rfl, rfl⟩)) ?_
            refine TQ.via rfl rfl rfl rfl (fun w2 hw2 => TL.move rfl rfl (TL.done ⟨rfl, rfl⟩)) ?_
            refine TQ.guardYes (d := 26) rfl rfl rfl ?_
            refine TQ.via rfl rfl rfl rfl (fun w2 hw2 => TL.move rfl rfl (TL.done ⟨rfl, rfl⟩)) ?_
            refine TQ.guardYes (d := 26) rfl rfl rfl ?_
            refine TQ.via rfl rfl rfl rfl (fun w2 hw2 => TL.gtr rfl rfl rfl (TL.done ⟨rfl, rfl⟩)) ?_
            refine TQ.em (fun e28 => ?_) (fun e28 => ?_)
            ·
              refine TQ.guardYes (d := 26) rfl rfl rfl ?_
              refine TQ.via rfl rfl rfl rfl (fun w2 hw2 => TL.move rfl rfl (TL.done ⟨rfl, rfl⟩)) ?_
              refine TQ.guardYes (d := 29) rfl rfl rfl ?_
              refine TQ.via rfl rfl rfl rfl (fun w2 hw2 => TL.move rfl rfl (TL.done ⟨rfl, rfl⟩)) ?_
              refine TQ.guardYes (d := 29) rfl rfl rfl ?_
              refine TQ.via rfl rfl rfl rfl (fun w2 hw2 => TL.move rfl rfl (TL.done ⟨rfl, rfl⟩)) ?_
              refine TQ.guardYes (d := 29) rfl rfl rfl ?_
              refine TQ.via rfl rfl rfl rfl (fun w2 hw2 => TL.sub_i64 rfl rfl (by omega) (by omega) rfl (TL.done ⟨rfl, rfl⟩)) ?_
              refine TQ.guardYes (d := 29) rfl rfl rfl ?_
              refine TQ.via rfl rfl rfl rfl (fun w2 hw2 => TL.indexAddr (i - 1) sl25 rfl rfl (by first | rfl | omega) (by omega) rfl (TL.done ⟨rfl, rfl⟩)) ?_
              refine TQ.guardYes (d := 29) rfl rfl rfl ?_
              refine TQ.via rfl rfl rfl rfl (fun w2 hw2 => TL.loadAgg (cl (Tm.rec l (i - 1))) ag27 rfl rfl (fun j hj => hce2 (by omega) _ hw2 j hj) rfl (TL.done ⟨rfl, rfl⟩)) ?_
              refine TQ.guardYes (d := 29) rfl rfl rfl ?_
              refine TQ.via rfl rfl rfl rfl (fun w2 hw2 => TL.loadAgg (cl x) ag27 rfl rfl (fun j _ => by rw [(hbs1.ch0 hw2).cell, Nat.zero_add, List.getElem?_toArray]) rfl (TL.done ⟨rfl, rfl⟩)) ?_
              refine TQ.guardYes (d := 29) rfl rfl rfl ?_
              refine TQ.call (.bool (decide (Tm.ahead (Tm.rec l (i - 1)) x))) can34 rfl rfl (fun w2 hw2 => (fn34 (Tm.rec l (i - 1)) x w2).mono (fun _ _ ⟨q1, q2⟩ => ⟨q1, hw2.trans0 q2⟩)) ?_
              refine TQ.guardYes (d := 29) rfl rfl rfl ?_
              refine TQ.via rfl rfl rfl rfl (fun w2 hw2 => TL.notP rfl rfl (TL.done ⟨rfl, rfl⟩)) ?_
              refine TQ.guardYes (d := 26) rfl rfl rfl ?_
              refine TQ.via rfl rfl rfl rfl (fun w2 hw2 => TL.pickT rfl rfl rfl rfl (TL.done ⟨rfl, rfl⟩)) ?_
              refine TQ.via rfl rfl rfl rfl (fun w2 hw2 => TL.pickF rfl rfl rfl rfl (TL.done ⟨rfl, rfl⟩)) ?_
              refine TQ.done (fun w2 hw2 => ?_)
              exact hK3  _ _ (by repeat (first | exact trivial | refine ⟨rfl, ?_⟩ | refine ⟨congrArg (fun b => some (Value.bool b)) (by first | exact (decide_eq_true (by grind)).symm | exact (decide_eq_false (by grind)).symm | exact decide_eq_decide.2 (by grind) | exact decide_eq_true (by grind) | exact decide_eq_false (by grind) | (exfalso; grind)), ?_⟩)) (hw2)
            ·
              refine TQ.guardYes (d := 26) rfl rfl rfl ?_
              refine TQ.via rfl rfl rfl rfl (fun w2 hw2 => TL.move rfl rfl (TL.done ⟨rfl, rfl⟩)) ?_
              refine TQ.guardNo (d := 29) rfl rfl rfl rfl rfl ?_
              refine TQ.guardNo (d := 29) rfl rfl rfl rfl rfl ?_
              refine TQ.guardNo (d := 29) rfl rfl rfl rfl rfl ?_
              refine TQ.guardNo (d := 29) rfl rfl rfl rfl rfl ?_
              refine TQ.guardNo (d := 29) rfl rfl rfl rfl rfl ?_
              refine TQ.guardNo (d := 29) rfl rfl rfl rfl rfl ?_
              refine TQ.guardNo (d := 29) rfl rfl rfl rfl rfl ?_
              refine TQ.guardNo (d := 29) rfl rfl rfl rfl rfl ?_
              refine TQ.guardYes (d := 26) rfl rfl rfl ?_
              refine TQ.via rfl rfl rfl rfl (fun w2 hw2 => TL.pickF rfl rfl rfl rfl (TL.done ⟨rfl, rfl⟩)) ?_
              refine TQ.via rfl rfl rfl rfl (fun w2 hw2 => TL.pickF rfl rfl rfl rfl (TL.done ⟨rfl, rfl⟩)) ?_
              refine TQ.done (fun w2 hw2 => ?_)
              exact hK3  _ _ (by repeat (first | exact trivial | refine ⟨rfl, ?_⟩ | refine ⟨congrArg (fun b => some (Value.bool b)) (by first | exact (decide_eq_true (by grind)).symm | exact (decide_eq_false (by grind)).symm | exact decide_eq_decide.2 (by grind) | exact decide_eq_true (by grind) | exact decide_eq_false (by grind) | (exfalso; grind)), ?_⟩)) (hw2)
        ·
          refine TQ.via rfl rfl rfl rfl (fun w2 hw2 => TL.not rfl rfl (TL.done ⟨rfl, rfl⟩)) ?_
          refine TQ.via rfl rfl rfl rfl (fun w2 hw2 => TL.move rfl rfl (TL.done ⟨rfl, rfl⟩)) ?_
          refine TQ.guardNo (d := 18) rfl rfl rfl rfl rfl ?_
          refine TQ.guardNo (d := 18) rfl rfl rfl rfl rfl ?_
          refine TQ.guardNo (d := 18) rfl rfl rfl rfl rfl ?_
          refine TQ.guardNo (d := 18) rfl rfl rfl rfl rfl ?_
          refine TQ.guardNo (d := 18) rfl rfl rfl rfl rfl ?_
          refine TQ.guardNo (d := 18) rfl rfl rfl rfl rfl ?_
          refine TQ.via rfl rfl rfl rfl (fun w2 hw2 => TL.pickT rfl rfl rfl rfl (TL.done ⟨rfl, rfl⟩)) ?_
          refine TQ.via rfl rfl rfl rfl (fun w2 hw2 => TL.move rfl rfl (TL.done ⟨rfl, rfl⟩)) ?_
          refine TQ.guardNo (d := 26) rfl rfl rfl rfl rfl ?_
          refine TQ.guardNo (d := 26) rfl rfl rfl rfl rfl ?_
          refine TQ.guardNo (d := 26) rfl rfl rfl rfl rfl ?_
          refine TQ.guardUndef (d := 29) rfl rfl rfl rfl ?_
          refine TQ.guardUndef (d := 29) rfl rfl rfl rfl ?_
          refine TQ.guardUndef (d := 29) rfl rfl rfl rfl ?_
          refine TQ.guardUndef (d := 29) rfl rfl rfl rfl ?_
          refine TQ.guardUndef (d := 29) rfl rfl rfl rfl ?_
          refine TQ.guardUndef (d := 29) rfl rfl rfl rfl ?_
          refine TQ.guardUndef (d := 29) rfl rfl rfl rfl ?_
          refine TQ.guardUndef (d := 29) rfl rfl rfl rfl ?_
          refine TQ.guardNo (d := 26) rfl rfl rfl rfl rfl ?_
          refine TQ.via rfl rfl rfl rfl (fun w2 hw2 => TL.pickT rfl rfl rfl rfl (TL.done ⟨rfl, rfl⟩)) ?_
          refine TQ.done (fun w2 hw2 => ?_)
          exact hK3  _ _ (by repeat (first | exact trivial | refine ⟨rfl, ?_⟩ | refine ⟨congrArg (fun b => some (Value.bool b)) (by first | exact (decide_eq_true (by grind)).symm | exact (decide_eq_false (by grind)).symm | exact decide_eq_decide.2 (by grind) | exact decide_eq_true (by grind) | exact decide_eq_false (by grind) | (exfalso; grind)), ?_⟩)) (hw2)
      ·
        refine TC.condP rfl (fun h7 => ?_) (fun h7 => ?_)
        ·
          refine TC.seq ?_
          refine TC.region ?_
          refine TL.assign rfl rfl ?_
          refine TL.done ?_
          refine Thn.go ?_
          refine TC.ret ?_
          refine Blk.ret ?_
          refine Thn.ret ?_
          refine Lp.ret ?_
          refine Blk.ret ?_
          refine Thn.ret ?_
          refine Ends.ret [2] rfl rfl ?_
          exact ⟨by rw [Tm.check_bad (by omega) hil (by assumption)]; rfl, (hch.trans0 q1).trans0 hH⟩
        ·
          refine TC.skip ?_
          refine Blk.go ?_
          refine Thn.go ?_
          refine TC.region ?_
          refine TL.add_i64 rfl rfl (by omega) (by omega) rfl ?_
          refine TL.move rfl rfl ?_
          refine TL.done ?_
          refine Lp.go (i + 1) (by repeat (first | exact trivial | refine ⟨rfl, ?_⟩)) ?_ (by first | omega | (dsimp only; omega))
          refine ⟨by omega, fun j hj => ?_, (hch.trans0 q1).trans0 hH⟩
          rcases Nat.lt_or_ge j i with h | h
          · exact hg j h
          · rw [show j = i by omega]; exact Decidable.not_not.1 (by assumption)
    ·
      have hil : i = l.length := by omega
      subst hil
      refine TC.exit ?_
      refine Thn.exit ?_
      refine Lp.exit ?_
      refine Blk.hit ?_
      refine Thn.go ?_
      refine TC.seq ?_
      refine TC.region ?_
      refine TL.assign rfl rfl ?_
      refine TL.done ?_
      refine Thn.go ?_
      refine TC.ret ?_
      refine Ends.ret [2] rfl rfl ?_
      exact ⟨by rw [Tm.check_ok (by omega) hg]; rfl, hch⟩

theorem fn21 (a : Value) (l : List Tm.Timer) (w : World) (ha : Rd w a 5 l.length (l.flatMap cl)) : Rets Try.prog 21 #[a] w (fun v w' => v = .int .i64 (Tm.checkE l : Int) ∧ Ch [] w w') := by
  obtain ⟨ad, c, rfl, _⟩ := ha.shape
  have hmx : l.length ≤ 9223372036854775807 := ha.nlt
  have hcap := ha.cap
  refine Rets.of (n := 47) (vs := [_]) Try.func21 rfl rfl rfl ?_
  refine TC.seq ?_
  refine TC.region ?_
  refine TL.assign rfl rfl ?_
  refine TL.done ?_
  refine Thn.go ?_
  refine TC.seq ?_
  refine TC.seq ?_
  refine TC.region ?_
  refine TL.move rfl rfl ?_
  refine TL.lenSlice Try.underlying25 rfl rfl ?_
  refine TL.gtr rfl rfl rfl ?_
  refine TL.done ?_
  refine Thn.go ?_
  refine TC.condP rfl (fun h1 => ?_) (fun h1 => ?_)
  ·
    refine TC.seq ?_
    refine TC.region ?_
    refine TL.assign rfl rfl ?_
    refine TL.done ?_
    refine Thn.go ?_
    refine TC.ret ?_
    refine Thn.ret ?_
    refine Ends.ret [2] rfl rfl ?_
    exact ⟨by rw [Tm.check_many (by omega)]; rfl, Ch.refl _ _⟩
  ·
    refine TC.skip ?_
    refine Thn.go ?_
    refine TC.seq ?_
    refine TC.seq ?_
    refine TC.region ?_
    refine TL.assign rfl rfl ?_
    refine TL.done ?_
    refine Thn.go ?_
    refine TC.block ?_
    refine TC.loop1 (fun (i : Nat) => [(0, .slice ad l.length c), (3, .int .i64 (i : Int))]) (fun i w' => i ≤ l.length ∧ (∀ j, j < i → Tm.good l j) ∧ Ch [] w w') (fun i => l.length - i) 0 (by repeat (first | exact trivial | refine ⟨rfl, ?_⟩)) (⟨by omega, by intro j hj; omega, Ch.refl _ _⟩) (fun i w' hH => ?_)
    obtain ⟨hi, hg, hch⟩ := hH
    refine TC.seq ?_
    refine TC.seq ?_
    refine TC.region ?_
    refine TL.move rfl rfl ?_
    refine TL.move rfl rfl ?_
    refine TL.lenSlice Try.underlying25 rfl rfl ?_
    refine TL.lss rfl rfl rfl ?_
    refine TL.done ?_
    refine Thn.go ?_
    refine TC.condP rfl (fun h2 => ?_) (fun h2 => ?_)
    ·
      have hil : i < l.length := by omega
      obtain ⟨b1, o1, rfl, _⟩ := recAt (ha.ch0 hch) hil
      obtain ⟨x, hx⟩ : ∃ x, Tm.rec l i = x := ⟨_, rfl⟩
      have hrd : ∀ w2, Ch [] w' w2 → Rd w2 (.slice (some ⟨b1, o1, none⟩) l.length c) 5 l.length (l.flatMap cl) := fun w2 h2 => (ha.ch0 hch).ch0 h2
      have hce : ∀ w2, Ch [] w' w2 → ∀ j, j < 5 → w2.cell? ⟨b1, o1 + i * 5 + j, none⟩ = (cl x)[j]? := fun w2 h2 => by obtain ⟨b', o', e, hh⟩ := recAt (i := i) (hrd w2 h2) (by omega); cases e; rw [hx] at hh; exact hh
      have hce2 : 0 < i → ∀ w2, Ch [] w' w2 → ∀ j, j < 5 → w2.cell? ⟨b1, o1 + (i - 1) * 5 + j, none⟩ = (cl (Tm.rec l (i - 1)))[j]? := fun h0 w2 h2 => by obtain ⟨b', o', e, hh⟩ := recAt (i := i - 1) (hrd w2 h2) (by omega); cases e; exact hh
      have hgi : Tm.good l i ↔ Tm.may x ∧ ¬ Tm.has (l.take i) x.seq ∧ (¬ ((i : Int) > 0) ∨ Tm.ahead (Tm.rec l (i - 1)) x) := by
        unfold Tm.good
        rw [hx]
        constructor
        · rintro ⟨a1, a2, a3⟩; exact ⟨a1, a2, a3.elim (fun h => .inl (by omega)) .inr⟩
        · rintro ⟨a1, a2, a3⟩; exact ⟨a1, a2, a3.elim (fun h => .inl (by omega)) .inr⟩
      refine TC.skip ?_
      refine Thn.go ?_
      refine TC.seq ?_
      refine TC.block ?_
      refine TC.cut0 ([(0, .slice (some ⟨b1, o1, none⟩) l.length c), (3, .int .i64 (i : Int)), (46, .bool (decide (¬ Tm.good l i)))]) (fun w3 => Ch [] w' w3) (fun K3 hK3 => ?_) (fun w3 hH => ?_)
      ·
        refine TC.regionQ (fun w4 => Ch [] w' w4) mixed0 (by kernel_rfl) (Ch.drew [] w') ?_
        refine TQ.via rfl rfl rfl rfl (fun w2 hw2 => TL.move rfl rfl (TL.done ⟨rfl, rfl⟩)) ?_
        refine TQ.via rfl rfl rfl rfl (fun w2 hw2 => TL.move rfl rfl (TL.done ⟨rfl, rfl⟩)) ?_
        refine TQ.via rfl rfl rfl rfl (fun w2 hw2 => TL.indexAddr (i) sl25 rfl rfl (by first | rfl | omega) (by omega) rfl (TL.done ⟨rfl, rfl⟩)) ?_
        refine TQ.via rfl rfl rfl rfl (fun w2 hw2 => TL.loadAgg (cl x) ag27 rfl rfl (fun j hj => hce _ hw2 j hj) rfl (TL.done ⟨rfl, rfl⟩)) ?_
        refine TQ.call (.bool (decide (Tm.may x))) can25 rfl rfl (fun w2 hw2 => (fn25 x w2).mono (fun _ _ ⟨q1, q2⟩ => ⟨q1, hw2.trans0 q2⟩)) ?_
        refine TQ.em (fun e17 => ?_) (fun e17 => ?_)
        ·
          refine TQ.via rfl rfl rfl rfl (fun w2 hw2 => TL.not rfl rfl (TL.done ⟨rfl, rfl⟩)) ?_
          refine TQ.via rfl rfl rfl rfl (fun w2 hw2 => TL.move rfl rfl (TL.done ⟨rfl, rfl⟩)) ?_
          refine TQ.guardYes (d := 19) rfl rfl rfl ?_
          refine TQ.via rfl rfl rfl rfl (fun w2 hw2 => TL.move rfl rfl (TL.done ⟨rfl, rfl⟩)) ?_
          refine TQ.guardYes (d := 19) rfl rfl rfl ?_
          refine TQ.via rfl rfl rfl rfl (fun w2 hw2 => TL.move rfl rfl (TL.done ⟨rfl, rfl⟩)) ?_
          refine TQ.guardYes (d := 19) rfl rfl rfl ?_
          refine TQ.via rfl rfl rfl rfl (fun w2 hw2 => TL.sliceTo (i) sl25 rfl rfl (by first | rfl | omega) (by omega) rfl (TL.done ⟨rfl, rfl⟩)) ?_
          refine TQ.guardYes (d := 19) rfl rfl rfl ?_
          refine TQ.via rfl rfl rfl rfl (fun w2 hw2 => TL.move rfl rfl (TL.done ⟨rfl, rfl⟩)) ?_
          refine TQ.guardYes (d := 19) rfl rfl rfl ?_
          refine TQ.via rfl rfl rfl rfl (fun w2 hw2 => TL.move rfl rfl (TL.done ⟨rfl, rfl⟩)) ?_
          refine TQ.guardYes (d := 19) rfl rfl rfl ?_
          refine TQ.via rfl rfl rfl rfl (fun w2 hw2 => TL.indexAddr (i) sl25 rfl rfl (by first | rfl | omega) (by omega) rfl (TL.done ⟨rfl, rfl⟩)) ?_
          refine TQ.guardYes (d := 19) rfl rfl rfl ?_
          refine TQ.via rfl rfl rfl rfl (fun w2 hw2 => TL.fieldAddr fd27k1 rfl rfl (TL.done ⟨rfl, rfl⟩)) ?_
          refine TQ.guardYes (d := 19) rfl rfl rfl ?_
          refine TQ.via rfl rfl rfl rfl (fun w2 hw2 => TL.load pl3 rfl ((show _ = some (Value.int .i64 x.seq) from hce _ hw2 1 (by decide))) rfl (TL.done ⟨rfl, rfl⟩)) ?_
          refine TQ.guardYes (d := 19) rfl rfl rfl ?_
          refine TQ.call (.bool (decide (Tm.has (l.take i) x.seq))) can26 rfl rfl (fun w2 hw2 => (fn26 _ (l.take i) x.seq w2 (prefixRd (hrd _ hw2) (by omega))).mono (fun _ _ ⟨q1, q2⟩ => ⟨q1, by rw [q2]; exact hw2⟩)) ?_
          refine TQ.em (fun e28 => ?_) (fun e28 => ?_)
          ·
            refine TQ.via rfl rfl rfl rfl (fun w2 hw2 => TL.pickF rfl rfl rfl rfl (TL.done ⟨rfl, rfl⟩)) ?_
            refine TQ.via rfl rfl rfl rfl (fun w2 hw2 => TL.move rfl rfl (TL.done ⟨rfl, rfl⟩)) ?_
            refine TQ.guardNo (d := 30) rfl rfl rfl rfl rfl ?_
            refine TQ.guardNo (d := 30) rfl rfl rfl rfl rfl ?_
            refine TQ.guardNo (d := 30) rfl rfl rfl rfl rfl ?_
            refine TQ.guardUndef (d := 33) rfl rfl rfl rfl ?_
            refine TQ.guardUndef (d := 33) rfl rfl rfl rfl ?_
            refine TQ.guardUndef (d := 33) rfl rfl rfl rfl ?_
            refine TQ.guardUndef (d := 33) rfl rfl rfl rfl ?_
            refine TQ.guardUndef (d := 33) rfl rfl rfl rfl ?_
            refine TQ.guardUndef (d := 33) rfl rfl rfl rfl ?_
            refine TQ.guardUndef (d := 33) rfl rfl rfl rfl ?_
            refine TQ.guardUndef (d := 33) rfl rfl rfl rfl ?_
            refine TQ.guardUndef (d := 33) rfl rfl rfl rfl ?_
            refine TQ.guardUndef (d := 33) rfl rfl rfl rfl ?_
            refine TQ.guardUndef (d := 33) rfl rfl rfl rfl ?_
            refine TQ.guardNo (d := 30) rfl rfl rfl rfl rfl ?_
            refine TQ.via rfl rfl rfl rfl (fun w2 hw2 => TL.pickT rfl rfl rfl rfl (TL.done ⟨rfl, rfl⟩)) ?_
            refine TQ.done (fun w2 hw2 => ?_)
            exact hK3  _ _ (by repeat (first | exact trivial | refine ⟨rfl, ?_⟩ | refine ⟨congrArg (fun b => some (Value.bool b)) (by first | exact (decide_eq_true (by grind)).symm | exact (decide_eq_false (by grind)).symm | exact decide_eq_decide.2 (by grind) | exact decide_eq_true (by grind) | exact decide_eq_false (by grind) | (exfalso; grind)), ?_⟩)) (hw2)
          ·
            refine TQ.via rfl rfl rfl rfl (fun w2 hw2 => TL.pickF rfl rfl rfl rfl (TL.done ⟨rfl, rfl⟩)) ?_
            refine TQ.via rfl rfl rfl rfl (fun w2 hw2 => TL.move rfl rfl (TL.done ⟨rfl, rfl⟩)) ?_
            refine TQ.guardYes (d := 30) rfl rfl rfl ?_
            refine TQ.via rfl rfl rfl rfl (fun w2 hw2 => TL.move rfl rfl (TL.done ⟨rfl, rfl⟩)) ?_
            refine TQ.guardYes (d := 30) rfl rfl rfl ?_
            refine TQ.via rfl rfl rfl rfl (fun w2 hw2 => TL.gtr rfl rfl rfl (TL.done ⟨rfl, rfl⟩)) ?_
            refine TQ.em (fun e32 => ?_) (fun e32 => ?_)
            ·
              refine TQ.guardYes (d := 30) rfl rfl rfl ?_
              refine TQ.via rfl rfl rfl rfl (fun w2 hw2 => TL.move rfl rfl (TL.done ⟨rfl, rfl⟩)) ?_
              refine TQ.guardYes (d := 33) rfl rfl rfl ?_
              refine TQ.via rfl rfl rfl rfl (fun w2 hw2 => TL.move rfl rfl (TL.done ⟨rfl, rfl⟩)) ?_
              refine TQ.guardYes (d := 33) rfl rfl rfl ?_
              refine TQ.via rfl rfl rfl rfl (fun w2 hw2 => TL.move rfl rfl (TL.done ⟨rfl, rfl⟩)) ?_
              refine TQ.guardYes (d := 33) rfl rfl rfl ?_
              refine TQ.via rfl rfl rfl rfl (fun w2 hw2 => TL.sub_i64 rfl rfl (by omega) (by omega) rfl (TL.done ⟨rfl, rfl⟩)) ?_
              refine TQ.guardYes (d := 33) rfl rfl rfl ?_
              refine TQ.via rfl rfl rfl rfl (fun w2 hw2 => TL.indexAddr (i - 1) sl25 rfl rfl (by first | rfl | omega) (by omega) rfl (TL.done ⟨rfl, rfl⟩)) ?_
              refine TQ.guardYes (d := 33) rfl rfl rfl ?_
              refine TQ.via rfl rfl rfl rfl (fun w2 hw2 => TL.loadAgg (cl (Tm.rec l (i - 1))) ag27 rfl rfl (fun j hj => hce2 (by omega) _ hw2 j hj) rfl (TL.done ⟨rfl, rfl⟩)) ?_
              refine TQ.guardYes (d := 33) rfl rfl rfl ?_
              refine TQ.via rfl rfl rfl rfl (fun w2 hw2 => TL.move rfl rfl (TL.done ⟨rfl, rfl⟩)) ?_
              refine TQ.guardYes (d := 33) rfl rfl rfl ?_
              refine TQ.via rfl rfl rfl rfl (fun w2 hw2 => TL.move rfl rfl (TL.done ⟨rfl, rfl⟩)) ?_
              refine TQ.guardYes (d := 33) rfl rfl rfl ?_
              refine TQ.via rfl rfl rfl rfl (fun w2 hw2 => TL.indexAddr (i) sl25 rfl rfl (by first | rfl | omega) (by omega) rfl (TL.done ⟨rfl, rfl⟩)) ?_
              refine TQ.guardYes (d := 33) rfl rfl rfl ?_
              refine TQ.via rfl rfl rfl rfl (fun w2 hw2 => TL.loadAgg (cl x) ag27 rfl rfl (fun j hj => hce _ hw2 j hj) rfl (TL.done ⟨rfl, rfl⟩)) ?_
              refine TQ.guardYes (d := 33) rfl rfl rfl ?_
              refine TQ.call (.bool (decide (Tm.ahead (Tm.rec l (i - 1)) x))) can39 rfl rfl (fun w2 hw2 => (fn39 (Tm.rec l (i - 1)) x w2).mono (fun _ _ ⟨q1, q2⟩ => ⟨q1, hw2.trans0 q2⟩)) ?_
              refine TQ.guardYes (d := 33) rfl rfl rfl ?_
              refine TQ.via rfl rfl rfl rfl (fun w2 hw2 => TL.notP rfl rfl (TL.done ⟨rfl, rfl⟩)) ?_
              refine TQ.guardYes (d := 30) rfl rfl rfl ?_
              refine TQ.via rfl rfl rfl rfl (fun w2 hw2 => TL.pickT rfl rfl rfl rfl (TL.done ⟨rfl, rfl⟩)) ?_
              refine TQ.via rfl rfl rfl rfl (fun w2 hw2 => TL.pickF rfl rfl rfl rfl (TL.done ⟨rfl, rfl⟩)) ?_
              refine TQ.done (fun w2 hw2 => ?_)
              exact hK3  _ _ (by repeat (first | exact trivial | refine ⟨rfl, ?_⟩ | refine ⟨congrArg (fun b => some (Value.bool b)) (by first | exact (decide_eq_true (by grind)).symm | exact (decide_eq_false (by grind)).symm | exact decide_eq_decide.2 (by grind) | exact decide_eq_true (by grind) | exact decide_eq_false (by grind) | (exfalso; grind)), ?_⟩)) (hw2)
            ·
              refine TQ.guardYes (d := 30) rfl rfl rfl ?_
              refine TQ.via rfl rfl rfl rfl (fun w2 hw2 => TL.move rfl rfl (TL.done ⟨rfl, rfl⟩)) ?_
              refine TQ.guardNo (d := 33) rfl rfl rfl rfl rfl ?_
              refine TQ.guardNo (d := 33) rfl rfl rfl rfl rfl ?_
              refine TQ.guardNo (d := 33) rfl rfl rfl rfl rfl ?_
              refine TQ.guardNo (d := 33) rfl rfl rfl rfl rfl ?_
              refine TQ.guardNo (d := 33) rfl rfl rfl rfl rfl ?_
              refine TQ.guardNo (d := 33) rfl rfl rfl rfl rfl ?_
              refine TQ.guardNo (d := 33) rfl rfl rfl rfl rfl ?_
              refine TQ.guardNo (d := 33) rfl rfl rfl rfl rfl ?_
              refine TQ.guardNo (d := 33) rfl rfl rfl rfl rfl ?_
              refine TQ.guardNo (d := 33) rfl rfl rfl rfl rfl ?_
              refine TQ.guardNo (d := 33) rfl rfl rfl rfl rfl ?_
              refine TQ.guardYes (d := 30) rfl rfl rfl ?_
              refine TQ.via rfl rfl rfl rfl (fun w2 hw2 => TL.pickF rfl rfl rfl rfl (TL.done ⟨rfl, rfl⟩)) ?_
              refine TQ.via rfl rfl rfl rfl (fun w2 hw2 => TL.pickF rfl rfl rfl rfl (TL.done ⟨rfl, rfl⟩)) ?_
              refine TQ.done (fun w2 hw2 => ?_)
              exact hK3  _ _ (by repeat (first | exact trivial | refine ⟨rfl, ?_⟩ | refine ⟨congrArg (fun b => some (Value.bool b)) (by first | exact (decide_eq_true (by grind)).symm | exact (decide_eq_false (by grind)).symm | exact decide_eq_decide.2 (by grind) | exact decide_eq_true (by grind) | exact decide_eq_false (by grind) | (exfalso; grind)), ?_⟩)) (hw2)
        ·
          refine TQ.via rfl rfl rfl rfl (fun w2 hw2 => TL.not rfl rfl (TL.done ⟨rfl, rfl⟩)) ?_
          refine TQ.via rfl rfl rfl rfl (fun w2 hw2 => TL.move rfl rfl (TL.done ⟨rfl, rfl⟩)) ?_
          refine TQ.guardNo (d := 19) rfl rfl rfl rfl rfl ?_
          refine TQ.guardNo (d := 19) rfl rfl rfl rfl rfl ?_
          refine TQ.guardNo (d := 19) rfl rfl rfl rfl rfl ?_
          refine TQ.guardNo (d := 19) rfl rfl rfl rfl rfl ?_
          refine TQ.guardNo (d := 19) rfl rfl rfl rfl rfl ?_
          refine TQ.guardNo (d := 19) rfl rfl rfl rfl rfl ?_
          refine TQ.guardNo (d := 19) rfl rfl rfl rfl rfl ?_
          refine TQ.guardNo (d := 19) rfl rfl rfl rfl rfl ?_
          refine TQ.guardNo (d := 19) rfl rfl rfl rfl rfl ?_
          refine TQ.via rfl rfl rfl rfl (fun w2 hw2 => TL.pickT rfl rfl rfl rfl (TL.done ⟨rfl, rfl⟩)) ?_
          refine TQ.via rfl rfl rfl rfl (fun w2 hw2 => TL.move rfl rfl (TL.done ⟨rfl, rfl⟩)) ?_
          refine TQ.guardNo (d := 30) rfl rfl rfl rfl rfl ?_
          refine TQ.guardNo (d := 30) rfl rfl rfl rfl rfl ?_
          refine TQ.guardNo (d := 30) rfl rfl rfl rfl rfl ?_
          refine TQ.guardUndef (d := 33) rfl rfl rfl rfl ?_
          refine TQ.guardUndef (d := 33) rfl rfl rfl rfl ?_
          refine TQ.guardUndef (d := 33) rfl rfl rfl rfl ?_
          refine TQ.guardUndef (d := 33) rfl rfl rfl rfl ?_
          refine TQ.guardUndef (d := 33) rfl rfl rfl rfl ?_
          refine TQ.guardUndef (d := 33) rfl rfl rfl rfl ?_
          refine TQ.guardUndef (d := 33) rfl rfl rfl rfl ?_
          refine TQ.guardUndef (d := 33) rfl rfl rfl rfl ?_
          refine TQ.guardUndef (d := 33) rfl rfl rfl rfl ?_
          refine TQ.guardUndef (d := 33) rfl rfl rfl rfl ?_
          refine TQ.guardUndef (d := 33) rfl rfl rfl rfl ?_
          refine TQ.guardNo (d := 30) rfl rfl rfl rfl rfl ?_
          refine TQ.via rfl rfl rfl rfl (fun w2 hw2 => TL.pickT rfl rfl rfl rfl (TL.done ⟨rfl, rfl⟩)) ?_
          refine TQ.done (fun w2 hw2 => ?_)
          exact hK3  _ _ (by repeat (first | exact trivial | refine ⟨rfl, ?_⟩ | refine ⟨congrArg (fun b => some (Value.bool b)) (by first | exact (decide_eq_true (by grind)).symm | exact (decide_eq_false (by grind)).symm | exact decide_eq_decide.2 (by grind) | exact decide_eq_true (by grind) | exact decide_eq_false (by grind) | (exfalso; grind)), ?_⟩)) (hw2)
      ·
        refine TC.condP rfl (fun h7 => ?_) (fun h7 => ?_)
        ·
          refine TC.seq ?_
          refine TC.region ?_
          refine TL.assign rfl rfl ?_
          refine TL.done ?_
          refine Thn.go ?_
          refine TC.ret ?_
          refine Blk.ret ?_
          refine Thn.ret ?_
          refine Lp.ret ?_
          refine Blk.ret ?_
          refine Thn.ret ?_
          refine Ends.ret [2] rfl rfl ?_
          exact ⟨by rw [Tm.check_bad (by omega) hil (by assumption)]; rfl, hch.trans0 hH⟩
        ·
          refine TC.skip ?_
          refine Blk.go ?_
          refine Thn.go ?_
          refine TC.region ?_
          refine TL.move rfl rfl ?_
          refine TL.add_i64 rfl rfl (by omega) (by omega) rfl ?_
          refine TL.assign rfl rfl ?_
          refine TL.done ?_
          refine Lp.go (i + 1) (by repeat (first | exact trivial | refine ⟨rfl, ?_⟩)) ?_ (by first | omega | (dsimp only; omega))
          refine ⟨by omega, fun j hj => ?_, hch.trans0 hH⟩
          rcases Nat.lt_or_ge j i with h | h
          · exact hg j h
          · rw [show j = i by omega]; exact Decidable.not_not.1 (by assumption)
    ·
      have hil : i = l.length := by omega
      subst hil
      refine TC.exit ?_
      refine Thn.exit ?_
      refine Lp.exit ?_
      refine Blk.hit ?_
      refine Thn.go ?_
      refine TC.seq ?_
      refine TC.region ?_
      refine TL.assign rfl rfl ?_
      refine TL.done ?_
      refine Thn.go ?_
      refine TC.ret ?_
      refine Ends.ret [2] rfl rfl ?_
      exact ⟨by rw [Tm.check_ok (by omega) hg]; rfl, hch⟩

