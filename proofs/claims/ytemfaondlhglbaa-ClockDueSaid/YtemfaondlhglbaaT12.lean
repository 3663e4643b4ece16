/-
  Walks through the given program: each theorem fnN says what the call of function N of the translation hands back, for all arguments that its premises describe, and that nothing that was there has turned.
-/
import Derived.Test.YtemfaondlhglbaaT11
namespace Go.Proofs.Ytemfaondlhglbaa
open Go.Lane
theorem can12 : Callable Try.prog 12 := ⟨Try.f12, Try.func12, by kernel_rfl, rfl⟩

theorem fn4 (a : Value) (l : List Tm.Timer) (m : Int) (w : World) (ha : Rd w a 5 l.length (l.flatMap cl)) : Rets Try.prog 4 #[a, .int .i64 m] w (fun v w' => v = .bool true ∧ Ch [] w w') := by
  obtain ⟨ad, c, rfl, _⟩ := ha.shape
  refine Rets.of (n := 103) (vs := [_, _]) Try.func4 rfl rfl rfl ?_
  refine TC.seq ?_
  refine TC.region ?_
  refine TL.assign rfl rfl ?_
  refine TL.done ?_
  refine Thn.go ?_
  refine TC.seq ?_
  refine TC.region ?_
  refine TL.call can12 rfl rfl (fn12 w) (fun v10 w10 hr10 => ?_)
  obtain ⟨rfl, hc10⟩ := hr10
  refine TL.assign rfl rfl ?_
  refine TL.done ?_
  refine Thn.go ?_
  refine TC.seq ?_
  refine TC.regionBool (d := 17) (p := (300 < l.length)) (fun K1 hK1 => ?_) ?_
  ·
    refine TL.move rfl rfl ?_
    refine TL.lenSlice Try.underlying25 rfl rfl ?_
    refine TL.gtr rfl rfl rfl ?_
    refine TL.em (fun e13 => ?_) (fun e13 => ?_)
    ·
      refine TL.move rfl rfl ?_
      refine TL.guardNo (d := 14) rfl rfl rfl rfl rfl ?_
      refine TL.guardNo (d := 14) rfl rfl rfl rfl rfl ?_
      refine TL.pickT rfl rfl rfl rfl ?_
      refine TL.done ?_
      refine hK1 _ ?_
      refine Le.here rfl (by first | exact decide_eq_true (by omega) | exact decide_eq_false (by omega) | exact decide_eq_decide.2 (by omega) | exact decide_eq_true (by grind) | exact decide_eq_false (by grind) | exact decide_eq_decide.2 (by grind)) ?_
      repeat (first | exact Le.refl _ | refine Le.skip rfl ?_)
    ·
      refine TL.move rfl rfl ?_
      refine TL.guardYes (d := 14) rfl rfl rfl ?_
      refine TL.move rfl rfl ?_
      refine TL.guardYes (d := 14) rfl rfl rfl ?_
      refine TL.not rfl rfl ?_
      refine TL.pickF rfl rfl rfl rfl ?_
      refine TL.done ?_
      refine hK1 _ ?_
      refine Le.here rfl (by first | exact decide_eq_true (by omega) | exact decide_eq_false (by omega) | exact decide_eq_decide.2 (by omega) | exact decide_eq_true (by grind) | exact decide_eq_false (by grind) | exact decide_eq_decide.2 (by grind)) ?_
      repeat (first | exact Le.refl _ | refine Le.skip rfl ?_)
  refine TC.condP rfl (fun h3 => ?_) (fun h3 => ?_)
  ·
    refine TC.seq ?_
    refine TC.region ?_
    refine TL.move rfl rfl ?_
    refine TL.assign rfl rfl ?_
    refine TL.done ?_
    refine Thn.go ?_
    refine TC.ret ?_
    refine Thn.ret ?_
    refine Ends.ret [4] rfl rfl ?_
    exact ⟨rfl, hc10⟩
  ·
    have hl3 : l.length ≤ 300 := by omega
    refine TC.skip ?_
    refine Thn.go ?_
    refine TC.seq ?_
    refine TC.region ?_
    refine TL.move rfl rfl ?_
    refine TL.move rfl rfl ?_
    refine TL.call can13 rfl rfl (fn13 _ l m w10 (ha.ch0 hc10)) (fun v22 w22 hr22 => ?_)
    obtain ⟨r22, s22, rfl, hv22, hu22, _, hc22⟩ := hr22
    have q22 := hc10.trans0 hc22
    refine TL.move rfl rfl ?_
    refine TL.extract rfl rfl rfl ?_
    refine TL.extract rfl rfl rfl ?_
    refine TL.extract rfl rfl rfl ?_
    refine TL.assign rfl rfl ?_
    refine TL.assign rfl rfl ?_
    refine TL.assign rfl rfl ?_
    refine TL.done ?_
    refine Thn.go ?_
    refine TC.seq ?_
    refine TC.seq ?_
    refine TC.region ?_
    refine TL.move rfl rfl ?_
    refine TL.neq rfl rfl rfl ?_
    refine TL.done ?_
    refine Thn.go ?_
    refine TC.condP rfl (fun h4 => ?_) (fun h4 => ?_)
    ·
      have f1 : Tm.dueL l m = [] := if_neg (by omega)
      have f2 : Tm.restL l m = [] := if_neg (by omega)
      rw [f1] at hv22
      rw [f2] at hu22
      obtain ⟨d1, p1, rfl⟩ := hv22.shape
      obtain ⟨d2, p2, rfl⟩ := hu22.shape
      refine TC.seq ?_
      refine TC.region ?_
      refine TL.move rfl rfl ?_
      refine TL.lenSlice Try.underlying25 rfl rfl ?_
      refine TL.eql rfl rfl rfl ?_
      refine TL.yes (rfl) ?_
      refine TL.move rfl rfl ?_
      refine TL.guardYes (d := 31) rfl rfl rfl ?_
      refine TL.move rfl rfl ?_
      refine TL.guardYes (d := 31) rfl rfl rfl ?_
      refine TL.lenSlice Try.underlying25 rfl rfl ?_
      refine TL.guardYes (d := 31) rfl rfl rfl ?_
      refine TL.eql rfl rfl rfl ?_
      refine TL.yes (rfl) ?_
      refine TL.pickT rfl rfl rfl rfl ?_
      refine TL.assign rfl rfl ?_
      refine TL.done ?_
      refine Thn.go ?_
      refine TC.ret ?_
      refine Thn.ret ?_
      refine Ends.ret [4] rfl rfl ?_
      exact ⟨rfl, q22⟩
    ·
      have h0 : Tm.dueE l m = 0 := by omega
      have hk : Tm.checkE l = 0 := by unfold Tm.dueE at h0; split at h0 <;> omega
      obtain ⟨p, hp, s1, s2, hm1, hm2⟩ := Tm.due_split (m := m) hk
      have f1 : Tm.dueL l m = l.take p := by rw [Tm.dueL, if_pos h0, s1]
      have f2 : Tm.restL l m = l.drop p := by rw [Tm.restL, if_pos h0, s2]
      have lt1 : (l.take p).length = p := by rw [List.length_take]; omega
      have lt2 : (l.drop p).length = l.length - p := List.length_drop
      rw [f1] at hv22
      rw [f2] at hu22
      obtain ⟨d1, p1, rfl⟩ := hv22.shape
      obtain ⟨d2, p2, rfl⟩ := hu22.shape
      refine TC.skip ?_
      refine Thn.go ?_
      refine TC.seq ?_
      refine TC.seq ?_
      refine TC.region ?_
      refine TL.move rfl rfl ?_
      refine TL.lenSlice Try.underlying25 rfl rfl ?_
      refine TL.move rfl rfl ?_
      refine TL.lenSlice Try.underlying25 rfl rfl ?_
      refine TL.add_i64 rfl rfl (by omega) (by omega) rfl ?_
      refine TL.move rfl rfl ?_
      refine TL.lenSlice Try.underlying25 rfl rfl ?_
      refine TL.neq rfl rfl rfl ?_
      refine TL.no (by omega) ?_
      refine TL.move rfl rfl ?_
      refine TL.guardYes (d := 44) rfl rfl rfl ?_
      refine TL.move rfl rfl ?_
      refine TL.guardYes (d := 44) rfl rfl rfl ?_
      refine TL.call can14 rfl rfl (fn14 _ (l.take p) w22 (Rd.ofOwn hv22)) (fun v46 w46 hr46 => ?_)
      obtain ⟨rfl, hc46⟩ := hr46
      refine TL.guardYes (d := 44) rfl rfl rfl ?_
      refine TL.neq rfl rfl rfl ?_
      refine TL.no (by rw [Tm.check_take hk hp]; decide) ?_
      refine TL.pickF rfl rfl rfl rfl ?_
      refine TL.move rfl rfl ?_
      refine TL.guardYes (d := 49) rfl rfl rfl ?_
      refine TL.move rfl rfl ?_
      refine TL.guardYes (d := 49) rfl rfl rfl ?_
      refine TL.call can14 rfl rfl (fn14 _ (l.drop p) w46 ((Rd.ofOwn hu22).ch0 hc46)) (fun v51 w51 hr51 => ?_)
      obtain ⟨rfl, hc51⟩ := hr51
      refine TL.guardYes (d := 49) rfl rfl rfl ?_
      refine TL.neq rfl rfl rfl ?_
      refine TL.no (by rw [Tm.check_drop hk]; decide) ?_
      have q51 := q22.trans0 (hc46.trans0 hc51)
      have hv := (hv22.ch0 hc46).ch0 hc51
      have hu := (hu22.ch0 hc46).ch0 hc51
      have hal := ha.ch0 q51
      refine TL.pickF rfl rfl rfl rfl ?_
      refine TL.done ?_
      refine Thn.go ?_
      refine TC.condF rfl rfl ?_
      refine TC.skip ?_
      refine Thn.go ?_
      refine TC.seq ?_
      refine TC.seq ?_
      refine TC.region ?_
      refine TL.assign rfl rfl ?_
      refine TL.done ?_
      refine Thn.go ?_
      refine TC.block ?_
      refine TC.loop1 (fun (i : Nat) => [(0, .slice ad l.length c), (1, .int .i64 m), (6, .slice d1 (l.take p).length p1), (7, .slice d2 (l.drop p).length p2), (9, .int .i64 (i : Int))]) (fun i w' => i ≤ l.length ∧ Ch [] w51 w') (fun i => l.length - i) 0 (by repeat (first | exact trivial | refine ⟨rfl, ?_⟩)) (⟨by omega, Ch.refl _ _⟩) (fun i w' hH => ?_)
      obtain ⟨hi, hch⟩ := hH
      refine TC.seq ?_
      refine TC.seq ?_
      refine TC.region ?_
      refine TL.move rfl rfl ?_
      refine TL.move rfl rfl ?_
      refine TL.lenSlice Try.underlying25 rfl rfl ?_
      refine TL.lss rfl rfl rfl ?_
      refine TL.done ?_
      refine Thn.go ?_
      refine TC.condP rfl (fun h6 => ?_) (fun h6 => ?_)
      ·
        have hil : i < l.length := by omega
        have hce : ∀ w2, Ch [] w' w2 → ∃ b o, ad = some ⟨b, o, none⟩ ∧ ∀ j, j < 5 → w2.cell? ⟨b, o + i * 5 + j, none⟩ = (cl (Tm.rec l i))[j]? := fun w2 h2 => recAt (i := i) ((hal.ch0 hch).ch0 h2) hil
        obtain ⟨b, o, rfl, _⟩ := hce w' (Ch.refl _ _)
        replace hce : ∀ w2, Ch [] w' w2 → ∀ j, j < 5 → w2.cell? ⟨b, o + i * 5 + j, none⟩ = (cl (Tm.rec l i))[j]? := fun w2 h2 => by obtain ⟨b', o', e, hh⟩ := hce w2 h2; cases e; exact hh
        refine TC.skip ?_
        refine Thn.go ?_
        refine TC.seq ?_
        refine TC.block ?_
        refine TC.seq ?_
        refine TC.region ?_
        refine TL.move rfl rfl ?_
        refine TL.move rfl rfl ?_
        refine TL.lenSlice Try.underlying25 rfl rfl ?_
        refine TL.lss rfl rfl rfl ?_
        refine TL.done ?_
        refine Thn.go ?_
        refine TC.condP rfl (fun h7 => ?_) (fun h7 => ?_)
        ·
          have hip : i < p := by omega
          have hde : ∀ w2, Ch [] w' w2 → ∃ b o, d1 = some ⟨b, o, none⟩ ∧ ∀ j, j < 5 → w2.cell? ⟨b, o + i * 5 + j, none⟩ = (cl (Tm.rec l i))[j]? := fun w2 h2 => by rw [← Tm.rec_take hip hp]; exact recAt (i := i) (((Rd.ofOwn hv).ch0 hch).ch0 h2) (by omega)
          obtain ⟨b1, o1, rfl, _⟩ := hde w' (Ch.refl _ _)
          replace hde : ∀ w2, Ch [] w' w2 → ∀ j, j < 5 → w2.cell? ⟨b1, o1 + i * 5 + j, none⟩ = (cl (Tm.rec l i))[j]? := fun w2 h2 => by obtain ⟨b', o', e, hh⟩ := hde w2 h2; cases e; exact hh
          refine TC.seq ?_
          refine TC.regionQ (fun w6 => Ch [] w' w6) mixed0 (by kernel_rfl) (Ch.drew [] _) ?_
          refine TQ.via rfl rfl rfl rfl (fun w2 hw2 => TL.move rfl rfl (TL.done ⟨rfl, rfl⟩)) ?_
          refine TQ.via rfl rfl rfl rfl (fun w2 hw2 => TL.move rfl rfl (TL.done ⟨rfl, rfl⟩)) ?_
          refine TQ.via rfl rfl rfl rfl (fun w2 hw2 => TL.indexAddr (i) sl25 rfl rfl (by first | rfl | omega) (by omega) rfl (TL.done ⟨rfl, rfl⟩)) ?_
          refine TQ.via rfl rfl rfl rfl (fun w2 hw2 => TL.loadAgg (cl (Tm.rec l i)) ag27 rfl rfl (fun j hj => hde _ hw2 j hj) rfl (TL.done ⟨rfl, rfl⟩)) ?_
          refine TQ.via rfl rfl rfl rfl (fun w2 hw2 => TL.move rfl rfl (TL.done ⟨rfl, rfl⟩)) ?_
          refine TQ.via rfl rfl rfl rfl (fun w2 hw2 => TL.move rfl rfl (TL.done ⟨rfl, rfl⟩)) ?_
          refine TQ.via rfl rfl rfl rfl (fun w2 hw2 => TL.indexAddr (i) sl25 rfl rfl (by first | rfl | omega) (by omega) rfl (TL.done ⟨rfl, rfl⟩)) ?_
          refine TQ.via rfl rfl rfl rfl (fun w2 hw2 => TL.loadAgg (cl (Tm.rec l i)) ag27 rfl rfl (fun j hj => hce _ hw2 j hj) rfl (TL.done ⟨rfl, rfl⟩)) ?_
          refine TQ.via rfl rfl rfl rfl (fun w2 hw2 => TL.neqAgg gd27 (eqTimer _ _ _) rfl rfl rfl (TL.done ⟨rfl, rfl⟩)) ?_
          refine TQ.no (by simp) ?_
          refine TQ.via rfl rfl rfl rfl (fun w2 hw2 => TL.move rfl rfl (TL.done ⟨rfl, rfl⟩)) ?_
          refine TQ.guardYes (d := 73) rfl rfl rfl ?_
          refine TQ.via rfl rfl rfl rfl (fun w2 hw2 => TL.move rfl rfl (TL.done ⟨rfl, rfl⟩)) ?_
          refine TQ.guardYes (d := 73) rfl rfl rfl ?_
          refine TQ.via rfl rfl rfl rfl (fun w2 hw2 => TL.move rfl rfl (TL.done ⟨rfl, rfl⟩)) ?_
          refine TQ.guardYes (d := 73) rfl rfl rfl ?_
          refine TQ.via rfl rfl rfl rfl (fun w2 hw2 => TL.indexAddr (i) sl25 rfl rfl (by first | rfl | omega) (by omega) rfl (TL.done ⟨rfl, rfl⟩)) ?_
          refine TQ.guardYes (d := 73) rfl rfl rfl ?_
          refine TQ.via rfl rfl rfl rfl (fun w2 hw2 => TL.fieldAddr fd27k0 rfl rfl (TL.done ⟨rfl, rfl⟩)) ?_
          refine TQ.guardYes (d := 73) rfl rfl rfl ?_
          refine TQ.via rfl rfl rfl rfl (fun w2 hw2 => TL.load pl3 rfl ((show _ = some (Value.int .i64 (Tm.rec l i).at_) from hce _ hw2 0 (by decide))) rfl (TL.done ⟨rfl, rfl⟩)) ?_
          refine TQ.guardYes (d := 73) rfl rfl rfl ?_
          refine TQ.via rfl rfl rfl rfl (fun w2 hw2 => TL.move rfl rfl (TL.done ⟨rfl, rfl⟩)) ?_
          refine TQ.guardYes (d := 73) rfl rfl rfl ?_
          refine TQ.via rfl rfl rfl rfl (fun w2 hw2 => TL.gtr rfl rfl rfl (TL.done ⟨rfl, rfl⟩)) ?_
          refine TQ.no (by have := hm1 i hip; omega) ?_
          refine TQ.via rfl rfl rfl rfl (fun w2 hw2 => TL.pickF rfl rfl rfl rfl (TL.done ⟨rfl, rfl⟩)) ?_
          refine TQ.done (fun w2 hw2 => ?_)
          refine Thn.go ?_
          refine TC.condF rfl rfl ?_
          refine TC.skip ?_
          refine Blk.go ?_
          refine Thn.go ?_
          refine TC.region ?_
          refine TL.move rfl rfl ?_
          refine TL.add_i64 rfl rfl (by omega) (by omega) rfl ?_
          refine TL.assign rfl rfl ?_
          refine TL.done ?_
          refine Lp.go (i + 1) (by repeat (first | exact trivial | refine ⟨rfl, ?_⟩)) ?_ (by first | omega | (dsimp only; omega))
          exact ⟨by omega, hch.trans0 hw2⟩
        ·
          have hip : p ≤ i := by omega
          have er : Tm.rec l i = Tm.rec (l.drop p) (i - p) := by rw [Tm.rec_drop, show p + (i - p) = i by omega]
          have hde : ∀ w2, Ch [] w' w2 → ∃ b o, d2 = some ⟨b, o, none⟩ ∧ ∀ j, j < 5 → w2.cell? ⟨b, o + (i - p) * 5 + j, none⟩ = (cl (Tm.rec l i))[j]? := fun w2 h2 => by rw [er]; exact recAt (i := i - p) (((Rd.ofOwn hu).ch0 hch).ch0 h2) (by omega)
          obtain ⟨b1, o1, rfl, _⟩ := hde w' (Ch.refl _ _)
          replace hde : ∀ w2, Ch [] w' w2 → ∀ j, j < 5 → w2.cell? ⟨b1, o1 + (i - p) * 5 + j, none⟩ = (cl (Tm.rec l i))[j]? := fun w2 h2 => by obtain ⟨b', o', e, hh⟩ := hde w2 h2; cases e; exact hh
          refine TC.seq ?_
          refine TC.regionQ (fun w6 => Ch [] w' w6) mixed0 (by kernel_rfl) (Ch.drew [] _) ?_
          refine TQ.via rfl rfl rfl rfl (fun w2 hw2 => TL.move rfl rfl (TL.done ⟨rfl, rfl⟩)) ?_
          refine TQ.via rfl rfl rfl rfl (fun w2 hw2 => TL.move rfl rfl (TL.done ⟨rfl, rfl⟩)) ?_
          refine TQ.via rfl rfl rfl rfl (fun w2 hw2 => TL.move rfl rfl (TL.done ⟨rfl, rfl⟩)) ?_
          refine TQ.via rfl rfl rfl rfl (fun w2 hw2 => TL.lenSlice Try.underlying25 rfl rfl (TL.done ⟨rfl, rfl⟩)) ?_
          refine TQ.via rfl rfl rfl rfl (fun w2 hw2 => TL.sub_i64 rfl rfl (by omega) (by omega) rfl (TL.done ⟨rfl, rfl⟩)) ?_
          refine TQ.via rfl rfl rfl rfl (fun w2 hw2 => TL.indexAddr (i - p) sl25 rfl rfl (by first | rfl | omega) (by omega) rfl (TL.done ⟨rfl, rfl⟩)) ?_
          refine TQ.via rfl rfl rfl rfl (fun w2 hw2 => TL.loadAgg (cl (Tm.rec l i)) ag27 rfl rfl (fun j hj => hde _ hw2 j hj) rfl (TL.done ⟨rfl, rfl⟩)) ?_
          refine TQ.via rfl rfl rfl rfl (fun w2 hw2 => TL.move rfl rfl (TL.done ⟨rfl, rfl⟩)) ?_
          refine TQ.via rfl rfl rfl rfl (fun w2 hw2 => TL.move rfl rfl (TL.done ⟨rfl, rfl⟩)) ?_
          refine TQ.via rfl rfl rfl rfl (fun w2 hw2 => TL.indexAddr (i) sl25 rfl rfl (by first | rfl | omega) (by omega) rfl (TL.done ⟨rfl, rfl⟩)) ?_
          refine TQ.via rfl rfl rfl rfl (fun w2 hw2 => TL.loadAgg (cl (Tm.rec l i)) ag27 rfl rfl (fun j hj => hce _ hw2 j hj) rfl (TL.done ⟨rfl, rfl⟩)) ?_
          refine TQ.via rfl rfl rfl rfl (fun w2 hw2 => TL.neqAgg gd27 (eqTimer _ _ _) rfl rfl rfl (TL.done ⟨rfl, rfl⟩)) ?_
          refine TQ.no (by simp) ?_
          refine TQ.via rfl rfl rfl rfl (fun w2 hw2 => TL.move rfl rfl (TL.done ⟨rfl, rfl⟩)) ?_
          refine TQ.guardYes (d := 94) rfl rfl rfl ?_
          refine TQ.via rfl rfl rfl rfl (fun w2 hw2 => TL.move rfl rfl (TL.done ⟨rfl, rfl⟩)) ?_
          refine TQ.guardYes (d := 94) rfl rfl rfl ?_
          refine TQ.via rfl rfl rfl rfl (fun w2 hw2 => TL.move rfl rfl (TL.done ⟨rfl, rfl⟩)) ?_
          refine TQ.guardYes (d := 94) rfl rfl rfl ?_
          refine TQ.via rfl rfl rfl rfl (fun w2 hw2 => TL.indexAddr (i) sl25 rfl rfl (by first | rfl | omega) (by omega) rfl (TL.done ⟨rfl, rfl⟩)) ?_
          refine TQ.guardYes (d := 94) rfl rfl rfl ?_
          refine TQ.via rfl rfl rfl rfl (fun w2 hw2 => TL.fieldAddr fd27k0 rfl rfl (TL.done ⟨rfl, rfl⟩)) ?_
          refine TQ.guardYes (d := 94) rfl rfl rfl ?_
          refine TQ.via rfl rfl rfl rfl (fun w2 hw2 => TL.load pl3 rfl ((show _ = some (Value.int .i64 (Tm.rec l i).at_) from hce _ hw2 0 (by decide))) rfl (TL.done ⟨rfl, rfl⟩)) ?_
          refine TQ.guardYes (d := 94) rfl rfl rfl ?_
          refine TQ.via rfl rfl rfl rfl (fun w2 hw2 => TL.move rfl rfl (TL.done ⟨rfl, rfl⟩)) ?_
          refine TQ.guardYes (d := 94) rfl rfl rfl ?_
          refine TQ.via rfl rfl rfl rfl (fun w2 hw2 => TL.leq rfl rfl rfl (TL.done ⟨rfl, rfl⟩)) ?_
          refine TQ.no (by have := hm2 i hip hil; omega) ?_
          refine TQ.via rfl rfl rfl rfl (fun w2 hw2 => TL.pickF rfl rfl rfl rfl (TL.done ⟨rfl, rfl⟩)) ?_
          refine TQ.done (fun w2 hw2 => ?_)
          refine Thn.go ?_
          refine TC.condF rfl rfl ?_
          refine TC.skip ?_
          refine Blk.go ?_
          refine Thn.go ?_
          refine TC.region ?_
          refine TL.move rfl rfl ?_
          refine TL.add_i64 rfl rfl (by omega) (by omega) rfl ?_
          refine TL.assign rfl rfl ?_
          refine TL.done ?_
          refine Lp.go (i + 1) (by repeat (first | exact trivial | refine ⟨rfl, ?_⟩)) ?_ (by first | omega | (dsimp only; omega))
          exact ⟨by omega, hch.trans0 hw2⟩
      ·
        refine TC.exit ?_
        refine Thn.exit ?_
        refine Lp.exit ?_
        refine Blk.hit ?_
        refine Thn.go ?_
        refine TC.seq ?_
        refine TC.region ?_
        refine TL.assign rfl rfl ?_
        refine TL.done ?_
        refine Thn.go ?_
        refine TC.ret ?_
        refine Ends.ret [4] rfl rfl ?_
        exact ⟨rfl, q51.trans0 hch⟩

