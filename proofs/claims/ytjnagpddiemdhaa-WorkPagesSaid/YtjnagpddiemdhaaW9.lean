/-
  Walks through the given program: each theorem fnN says what the call of function N of the translation hands back, for all arguments that its premises describe, and that nothing that was there has turned.
-/
import Derived.Test.YtjnagpddiemdhaaW8
namespace Go.Proofs.Ytjnagpddiemdhaa
open Go.Lane


theorem fn15 (a : Value) (l : List Wk.Work) (x : Wk.Work) (w : World) (ha : Rd w a 6 l.length (l.flatMap cl)) : Rets Try.prog 15 #[a, .agg (cl x).toArray] w (fun v w' => ∃ r, v = .tuple #[r, .int .i64 (Wk.offerE l x : Int)] ∧ Own w' w.heap.size 33 6 r (Wk.offerL l x).length ((Wk.offerL l x).flatMap cl) ∧ Ch [] w w') := by
  obtain ⟨ad, c, rfl, _⟩ := ha.shape
  have hmx : l.length ≤ 9223372036854775807 := ha.nlt
  have hmm : maxLen = 9223372036854775807 := rfl
  refine Rets.of (n := 44) (vs := [_, _]) Try.func15 rfl rfl rfl ?_
  refine TC.seq ?_
  refine TC.region ?_
  refine TL.box rfl rfl (fun w3 hb3 hc3 hz3 => ?_)
  replace hb3 : Has w3 w.heap.size (cl x).toArray 33 (0, 0) := hb3
  refine TL.assign rfl rfl ?_
  refine TL.assign rfl rfl ?_
  refine TL.done ?_
  refine Thn.go ?_
  refine TC.seq ?_
  refine TC.seq ?_
  refine TC.region ?_
  refine TL.move rfl rfl ?_
  refine TL.call can25 rfl rfl (fn25 _ l w3 (ha.ch0 hc3)) (fun v8 w8 hr8 => ?_)
  obtain ⟨rfl, hc8⟩ := hr8
  have q8 := hc3.trans0 hc8
  refine TL.assign rfl rfl ?_
  refine TL.done ?_
  refine Thn.go ?_
  refine TC.seq ?_
  refine TC.region ?_
  refine TL.move rfl rfl ?_
  refine TL.neq rfl rfl rfl ?_
  refine TL.done ?_
  refine Thn.go ?_
  refine TC.condP rfl (fun h1 => ?_) (fun h1 => ?_)
  ·
    obtain ⟨e1, e2⟩ := Wk.offer_check (x := x) (show Wk.checkE l ≠ 0 by omega)
    refine TC.seq ?_
    refine TC.region ?_
    refine TL.move rfl rfl ?_
    refine TL.assign rfl rfl ?_
    refine TL.assign rfl rfl ?_
    refine TL.done ?_
    refine Thn.go ?_
    refine TC.ret ?_
    refine Thn.ret ?_
    refine Ends.ret [4, 5] rfl rfl ?_
    exact ⟨_, by rw [e1]; rfl, by rw [e2]; exact World.ownsRow_nil _ _ _ _, q8⟩
  ·
    have h0 : Wk.checkE l = 0 := by omega
    obtain ⟨hlen, _⟩ := Wk.check_zero h0
    refine TC.skip ?_
    refine Thn.go ?_
    refine TC.seq ?_
    refine TC.block ?_
    refine TC.seq ?_
    refine TC.region ?_
    refine TL.loadAgg (cl x) ag33 rfl rfl (fun j _ => by rw [(hb3.ch0 hc8).cell, Nat.zero_add, List.getElem?_toArray]) rfl ?_
    refine TL.call can33 rfl rfl (fn33 x w8) (fun v14 w14 hr14 => ?_)
    obtain ⟨rfl, hc14⟩ := hr14
    have q14 := q8.trans0 hc14
    have hb14 := (hb3.ch0 hc8).ch0 hc14
    refine TL.notP rfl rfl ?_
    refine TL.assign rfl rfl ?_
    refine TL.done ?_
    refine Thn.go ?_
    refine TC.condP rfl (fun h2 => ?_) (fun h2 => ?_)
    ·
      obtain ⟨e1, e2⟩ := Wk.offer_may (x := x) h0 (by assumption)
      refine TC.seq ?_
      refine TC.region ?_
      refine TL.assign rfl rfl ?_
      refine TL.assign rfl rfl ?_
      refine TL.done ?_
      refine Thn.go ?_
      refine TC.ret ?_
      refine Blk.ret ?_
      refine Thn.ret ?_
      refine Ends.ret [4, 5] rfl rfl ?_
      exact ⟨_, by rw [e1]; rfl, by rw [e2]; exact World.ownsRow_nil _ _ _ _, q14⟩
    ·
      have hmay : Wk.may x := Decidable.not_not.1 (by assumption)
      refine TC.cut0 ([(0, .slice ad l.length c), (3, .pointer (some ⟨w.heap.size, 0, none⟩)), (16, .bool (decide (x.state.toNat ≠ 1 ∨ (0 < l.length ∧ x.id ≤ (Wk.rec l (l.length - 1)).id))))]) (fun w2 => Ch [] w14 w2) (fun K3 hK3 => ?_) (fun w2 hM => ?_)
      ·
        refine TC.seq ?_
        refine TC.region ?_
        refine TL.fieldAddr fd33k4 rfl rfl ?_
        refine TL.load pl5 rfl (hb14.cell _) rfl ?_
        refine TL.neq rfl rfl rfl ?_
        refine TL.assign rfl rfl ?_
        refine TL.done ?_
        refine Thn.go ?_
        refine TC.condP rfl (fun h4 => ?_) (fun h4 => ?_)
        ·
          refine TC.skip ?_
          exact hK3  _ _ (by repeat (first | exact trivial | refine ⟨rfl, ?_⟩ | refine ⟨congrArg (fun b => some (Value.bool b)) (by first | exact (decide_eq_true (by grind)).symm | exact (decide_eq_false (by grind)).symm | exact decide_eq_decide.2 (by grind) | exact decide_eq_true (by grind) | exact decide_eq_false (by grind) | (exfalso; grind)), ?_⟩)) (by first | exact hw2 | exact Ch.refl _ _)
        ·
          refine TC.regionQ (fun w4 => Ch [] w14 w4) mixed0 (by kernel_rfl) (Ch.drew [] _) ?_
          refine TQ.via rfl rfl rfl rfl (fun w2 hw2 => TL.move rfl rfl (TL.done ⟨rfl, rfl⟩)) ?_
          refine TQ.via rfl rfl rfl rfl (fun w2 hw2 => TL.lenSlice Try.underlying22 rfl rfl (TL.done ⟨rfl, rfl⟩)) ?_
          refine TQ.via rfl rfl rfl rfl (fun w2 hw2 => TL.gtr rfl rfl rfl (TL.done ⟨rfl, rfl⟩)) ?_
          refine TQ.em (fun e22 => ?_) (fun e22 => ?_)
          ·
            obtain ⟨b1, o1, rfl, hce⟩ := recAt (i := l.length - 1) (ha.ch0 q14) (by omega)
            have hce2 : ∀ w2, Ch [] w14 w2 → ∀ j, j < 6 → w2.cell? ⟨b1, o1 + (l.length - 1) * 6 + j, none⟩ = (cl (Wk.rec l (l.length - 1)))[j]? := fun w2 h2 => by obtain ⟨b', o', e, hh⟩ := recAt (i := l.length - 1) ((ha.ch0 q14).ch0 h2) (by omega); cases e; exact hh
            refine TQ.via rfl rfl rfl rfl (fun w2 hw2 => TL.move rfl rfl (TL.done ⟨rfl, rfl⟩)) ?_
            refine TQ.guardYes (d := 23) rfl rfl rfl ?_
            refine TQ.via rfl rfl rfl rfl (fun w2 hw2 => TL.move rfl rfl (TL.done ⟨rfl, rfl⟩)) ?_
            refine TQ.guardYes (d := 23) rfl rfl rfl ?_
            refine TQ.via rfl rfl rfl rfl (fun w2 hw2 => TL.move rfl rfl (TL.done ⟨rfl, rfl⟩)) ?_
            refine TQ.guardYes (d := 23) rfl rfl rfl ?_
            refine TQ.via rfl rfl rfl rfl (fun w2 hw2 => TL.lenSlice Try.underlying22 rfl rfl (TL.done ⟨rfl, rfl⟩)) ?_
            refine TQ.guardYes (d := 23) rfl rfl rfl ?_
            refine TQ.via rfl rfl rfl rfl (fun w2 hw2 => TL.sub_i64 rfl rfl (by omega) (by omega) rfl (TL.done ⟨rfl, rfl⟩)) ?_
            refine TQ.guardYes (d := 23) rfl rfl rfl ?_
            refine TQ.via rfl rfl rfl rfl (fun w2 hw2 => TL.indexAddr (l.length - 1) sl22 rfl rfl (by first | rfl | omega) (by omega) rfl (TL.done ⟨rfl, rfl⟩)) ?_
            refine TQ.guardYes (d := 23) rfl rfl rfl ?_
            refine TQ.via rfl rfl rfl rfl (fun w2 hw2 => TL.fieldAddr fd33k0 rfl rfl (TL.done ⟨rfl, rfl⟩)) ?_
            refine TQ.guardYes (d := 23) rfl rfl rfl ?_
            refine TQ.via rfl rfl rfl rfl (fun w2 hw2 => TL.load pl3 rfl ((show _ = some (Value.int .i64 (Wk.rec l (l.length - 1)).id) from hce2 _ hw2 0 (by decide))) rfl (TL.done ⟨rfl, rfl⟩)) ?_
            refine TQ.guardYes (d := 23) rfl rfl rfl ?_
            refine TQ.via rfl rfl rfl rfl (fun w2 hw2 => TL.fieldAddr fd33k0 rfl rfl (TL.done ⟨rfl, rfl⟩)) ?_
            refine TQ.guardYes (d := 23) rfl rfl rfl ?_
            refine TQ.via rfl rfl rfl rfl (fun w2 hw2 => TL.load pl3 rfl ((show _ = some (Value.int .i64 x.id) from (hb14.ch0 hw2).cell _)) rfl (TL.done ⟨rfl, rfl⟩)) ?_
            refine TQ.guardYes (d := 23) rfl rfl rfl ?_
            refine TQ.via rfl rfl rfl rfl (fun w2 hw2 => TL.geq rfl rfl rfl (TL.done ⟨rfl, rfl⟩)) ?_
            refine TQ.via rfl rfl rfl rfl (fun w2 hw2 => TL.pickT rfl rfl rfl rfl (TL.done ⟨rfl, rfl⟩)) ?_
            refine TQ.via rfl rfl rfl rfl (fun w2 hw2 => TL.assign rfl rfl (TL.done ⟨rfl, rfl⟩)) ?_
            refine TQ.done (fun w2 hw2 => ?_)
            exact hK3  _ _ (by repeat (first | exact trivial | refine ⟨rfl, ?_⟩ | refine ⟨congrArg (fun b => some (Value.bool b)) (by first | exact (decide_eq_true (by grind)).symm | exact (decide_eq_false (by grind)).symm | exact decide_eq_decide.2 (by grind) | exact decide_eq_true (by grind) | exact decide_eq_false (by grind) | (exfalso; grind)), ?_⟩)) (by first | exact hw2 | exact Ch.refl _ _)
          ·
            refine TQ.via rfl rfl rfl rfl (fun w2 hw2 => TL.move rfl rfl (TL.done ⟨rfl, rfl⟩)) ?_
            refine TQ.guardNo (d := 23) rfl rfl rfl rfl rfl ?_
            refine TQ.guardNo (d := 23) rfl rfl rfl rfl rfl ?_
            refine TQ.guardNo (d := 23) rfl rfl rfl rfl rfl ?_
            refine TQ.guardNo (d := 23) rfl rfl rfl rfl rfl ?_
            refine TQ.guardNo (d := 23) rfl rfl rfl rfl rfl ?_
            refine TQ.guardNo (d := 23) rfl rfl rfl rfl rfl ?_
            refine TQ.guardNo (d := 23) rfl rfl rfl rfl rfl ?_
            refine TQ.guardNo (d := 23) rfl rfl rfl rfl rfl ?_
            refine TQ.guardNo (d := 23) rfl rfl rfl rfl rfl ?_
            refine TQ.guardNo (d := 23) rfl rfl rfl rfl rfl ?_
            refine TQ.via rfl rfl rfl rfl (fun w2 hw2 => TL.pickF rfl rfl rfl rfl (TL.done ⟨rfl, rfl⟩)) ?_
            refine TQ.via rfl rfl rfl rfl (fun w2 hw2 => TL.assign rfl rfl (TL.done ⟨rfl, rfl⟩)) ?_
            refine TQ.done (fun w2 hw2 => ?_)
            exact hK3  _ _ (by repeat (first | exact trivial | refine ⟨rfl, ?_⟩ | refine ⟨congrArg (fun b => some (Value.bool b)) (by first | exact (decide_eq_true (by grind)).symm | exact (decide_eq_false (by grind)).symm | exact decide_eq_decide.2 (by grind) | exact decide_eq_true (by grind) | exact decide_eq_false (by grind) | (exfalso; grind)), ?_⟩)) (by first | exact hw2 | exact Ch.refl _ _)
      ·
        refine TC.condP rfl (fun h6 => ?_) (fun h6 => ?_)
        ·
          obtain ⟨e1, e2⟩ := Wk.offer_fit (l := l) h0 hmay (by assumption)
          refine TC.seq ?_
          refine TC.region ?_
          refine TL.assign rfl rfl ?_
          refine TL.assign rfl rfl ?_
          refine TL.done ?_
          refine Thn.go ?_
          refine TC.ret ?_
          refine Blk.ret ?_
          refine Thn.ret ?_
          refine Ends.ret [4, 5] rfl rfl ?_
          exact ⟨_, by rw [e1]; rfl, by rw [e2]; exact World.ownsRow_nil _ _ _ _, q14.trans0 hM⟩
        ·
          have hfit : ¬ (x.state.toNat ≠ 1 ∨ (0 < l.length ∧ x.id ≤ (Wk.rec l (l.length - 1)).id)) := by assumption
          refine TC.seq ?_
          refine TC.region ?_
          refine TL.move rfl rfl ?_
          refine TL.lenSlice Try.underlying22 rfl rfl ?_
          refine TL.eql rfl rfl rfl ?_
          refine TL.assign rfl rfl ?_
          refine TL.done ?_
          refine Thn.go ?_
          refine TC.condP rfl (fun h7 => ?_) (fun h7 => ?_)
          ·
            obtain ⟨e1, e2⟩ := Wk.offer_many (l := l) h0 hmay hfit (by omega)
            refine TC.seq ?_
            refine TC.region ?_
            refine TL.assign rfl rfl ?_
            refine TL.assign rfl rfl ?_
            refine TL.done ?_
            refine Thn.go ?_
            refine TC.ret ?_
            refine Blk.ret ?_
            refine Thn.ret ?_
            refine Ends.ret [4, 5] rfl rfl ?_
            exact ⟨_, by rw [e1]; rfl, by rw [e2]; exact World.ownsRow_nil _ _ _ _, q14.trans0 hM⟩
          ·
            obtain ⟨e1, e2⟩ := Wk.offer_ok (l := l) h0 hmay hfit (by omega)
            have q2 : Ch [] w w2 := q14.trans0 hM
            have z1 := q2.size
            refine TC.skip ?_
            refine Blk.go ?_
            refine Thn.go ?_
            refine TC.seq ?_
            refine TC.regionH (fun w4 => Ch [] w2 w4) mixed0 ?_
            have hS : (fun w4 => Ch [] w2 w4) _ := Ch.drew [] _
            refine TH.take (i := 0) rfl rfl rfl rfl rfl (by kernel_rfl) (by kernel_rfl) (by kernel_rfl) hS (fun w2 hw2 => TL.move rfl rfl (TL.done ⟨rfl, rfl⟩)) ?_
            refine TH.take (i := 2) rfl rfl rfl rfl rfl (by kernel_rfl) (by kernel_rfl) (by kernel_rfl) hS (fun w2 hw2 => TL.loadAgg (cl x) ag33 rfl rfl (fun j _ => by rw [((hb14.ch0 hM).ch0 hw2).cell, Nat.zero_add, List.getElem?_toArray]) rfl (TL.done ⟨rfl, rfl⟩)) ?_
            refine TH.two (i := 1) (j := 3) (by kernel_rfl) rfl rfl rfl rfl ?_ ?_
            ·
              refine TL.call can30 rfl rfl (fn30 _ l (by omega) _ (Rd.ch0 (ha.ch0 q2) hS)) (fun v40 w40 hr40 => ?_)
              obtain ⟨hv40o, hc40⟩ := hr40
              have hv40 := hv40o.base (Ch.trans0 q2 hS).size
              have z2 := (Ch.trans0 (Ch.trans0 q2 hS) hc40).size
              have hS : (fun w4 => Ch [] w2 w4) _ := Ch.trans0 hS hc40
              refine TL.done ⟨hS, ?_⟩
              refine TH.one (i := 3) (by kernel_rfl) rfl rfl ?_
              refine TL.buildSlice [.tmp 41] sl22 rfl rfl rfl (by decide) (by first | simp [Value.cells]; done | simp [Value.cells, cl_len]; done) rfl (fun w42 hb42 hc42 hz42 => ?_)
              have hS : (fun w4 => Ch [] w2 w4) _ := Ch.trans0 hS hc42
              refine TL.done ⟨hS, ?_⟩
              refine TH.one (i := 4) (by kernel_rfl) rfl rfl ?_
              refine TL.append sl22 rfl rfl rfl (hv40.ch0 hc42) (News.ofRd Try.underlying22 (recOne hb42) (rows_one _)) (by omega) (by omega) (by omega) (fun v43 w43 hv43 hc43 _ => ?_)
              have hS : (fun w4 => Ch [] w2 w4) _ := Own.thenCh' (hv40o.ch0 hc42) hS hc43 (Ch.drew [] _).size
              refine TL.done ⟨hS, ?_⟩
              refine TH.take (i := 5) rfl rfl rfl rfl rfl (by kernel_rfl) (by kernel_rfl) (by kernel_rfl) hS (fun w2 hw2 => TL.assign rfl rfl (TL.done ⟨rfl, rfl⟩)) ?_
              refine TH.take (i := 6) rfl rfl rfl rfl rfl (by kernel_rfl) (by kernel_rfl) (by kernel_rfl) hS (fun w2 hw2 => TL.assign rfl rfl (TL.done ⟨rfl, rfl⟩)) ?_
              refine TH.done (by kernel_rfl) ?_
              refine Thn.go ?_
              refine TC.ret ?_
              refine Ends.ret [4, 5] rfl rfl ?_
              exact ⟨_, by rw [e1]; rfl, by rw [e2, List.length_append, List.flatMap_append]; exact hv43, Ch.trans0 q2 hS⟩
            ·
              refine TL.buildSlice [.tmp 41] sl22 rfl rfl rfl (by decide) (by first | simp [Value.cells]; done | simp [Value.cells, cl_len]; done) rfl (fun w42 hb42 hc42 hz42 => ?_)
              have hS : (fun w4 => Ch [] w2 w4) _ := Ch.trans0 hS hc42
              refine TL.done ⟨hS, ?_⟩
              refine TH.one (i := 1) (by kernel_rfl) rfl rfl ?_
              refine TL.call can30 rfl rfl (fn30 _ l (by omega) _ (Rd.ch0 (ha.ch0 q2) hS)) (fun v40 w40 hr40 => ?_)
              obtain ⟨hv40o, hc40⟩ := hr40
              have hv40 := hv40o.base (Ch.trans0 q2 hS).size
              have z2 := (Ch.trans0 (Ch.trans0 q2 hS) hc40).size
              have hS : (fun w4 => Ch [] w2 w4) _ := Ch.trans0 hS hc40
              refine TL.done ⟨hS, ?_⟩
              refine TH.one (i := 4) (by kernel_rfl) rfl rfl ?_
              refine TL.append sl22 rfl rfl rfl (hv40) (News.ofRd Try.underlying22 (recOne (hb42.ch0 hc40)) (rows_one _)) (by omega) (by omega) (by omega) (fun v43 w43 hv43 hc43 _ => ?_)
              have hS : (fun w4 => Ch [] w2 w4) _ := Own.thenCh' hv40o hS hc43 (Ch.trans0 (Ch.drew [] w2) hc42).size
              refine TL.done ⟨hS, ?_⟩
              refine TH.take (i := 5) rfl rfl rfl rfl rfl (by kernel_rfl) (by kernel_rfl) (by kernel_rfl) hS (fun w2 hw2 => TL.assign rfl rfl (TL.done ⟨rfl, rfl⟩)) ?_
              refine TH.take (i := 6) rfl rfl rfl rfl rfl (by kernel_rfl) (by kernel_rfl) (by kernel_rfl) hS (fun w2 hw2 => TL.assign rfl rfl (TL.done ⟨rfl, rfl⟩)) ?_
              refine TH.done (by kernel_rfl) ?_
              refine Thn.go ?_
              refine TC.ret ?_
              refine Ends.ret [4, 5] rfl rfl ?_
              exact ⟨_, by rw [e1]; rfl, by rw [e2, List.length_append, List.flatMap_append]; exact hv43, Ch.trans0 q2 hS⟩

theorem fn16 (a : Value) (l : List Wk.Work) (x : Wk.Work) (w : World) (ha : Rd w a 6 l.length (l.flatMap cl)) : Rets Try.prog 16 #[a, .agg (cl x).toArray] w (fun v w' => ∃ r, v = .tuple #[r, .int .i64 (Wk.offerE l x : Int)] ∧ Own w' w.heap.size 33 6 r (Wk.offerL l x).length ((Wk.offerL l x).flatMap cl) ∧ Ch [] w w') := by
  obtain ⟨ad, c, rfl, _⟩ := ha.shape
  have hmx : l.length ≤ 9223372036854775807 := ha.nlt
  have hmm : maxLen = 9223372036854775807 := rfl
  refine Rets.of (n := 46) (vs := [_, _]) Try.func16 rfl rfl rfl ?_
  refine TC.seq ?_
  refine TC.region ?_
  refine TL.box rfl rfl (fun w3 hb3 hc3 hz3 => ?_)
  replace hb3 : Has w3 w.heap.size (cl x).toArray 33 (0, 0) := hb3
  refine TL.assign rfl rfl ?_
  refine TL.assign rfl rfl ?_
  refine TL.done ?_
  refine Thn.go ?_
  refine TC.seq ?_
  refine TC.region ?_
  refine TL.move rfl rfl ?_
  refine TL.call can26 rfl rfl (fn26 _ l w3 (ha.ch0 hc3)) (fun v9 w9 hr9 => ?_)
  obtain ⟨rfl, hc8⟩ := hr9
  have q8 := hc3.trans0 hc8
  refine TL.assign rfl rfl ?_
  refine TL.done ?_
  refine Thn.go ?_
  refine TC.seq ?_
  refine TC.seq ?_
  refine TC.region ?_
  refine TL.move rfl rfl ?_
  refine TL.neq rfl rfl rfl ?_
  refine TL.done ?_
  refine Thn.go ?_
  refine TC.condP rfl (fun h1 => ?_) (fun h1 => ?_)
  ·
    obtain ⟨e1, e2⟩ := Wk.offer_check (x := x) (show Wk.checkE l ≠ 0 by omega)
    refine TC.seq ?_
    refine TC.region ?_
    refine TL.move rfl rfl ?_
    refine TL.assign rfl rfl ?_
    refine TL.assign rfl rfl ?_
    refine TL.done ?_
    refine Thn.go ?_
    refine TC.ret ?_
    refine Thn.ret ?_
    refine Ends.ret [4, 5] rfl rfl ?_
    exact ⟨_, by rw [e1]; rfl, by rw [e2]; exact World.ownsRow_nil _ _ _ _, q8⟩
  ·
    have h0 : Wk.checkE l = 0 := by omega
    obtain ⟨hlen, _⟩ := Wk.check_zero h0
    refine TC.skip ?_
    refine Thn.go ?_
    refine TC.seq ?_
    refine TC.seq ?_
    refine TC.region ?_
    refine TL.loadAgg (cl x) ag33 rfl rfl (fun j _ => by rw [(hb3.ch0 hc8).cell, Nat.zero_add, List.getElem?_toArray]) rfl ?_
    refine TL.call can34 rfl rfl (fn34 x w9) (fun v14 w14 hr14 => ?_)
    obtain ⟨rfl, hc14⟩ := hr14
    have q14 := q8.trans0 hc14
    have hb14 := (hb3.ch0 hc8).ch0 hc14
    refine TL.notP rfl rfl ?_
    refine TL.done ?_
    refine Thn.go ?_
    refine TC.condP rfl (fun h2 => ?_) (fun h2 => ?_)
    ·
      obtain ⟨e1, e2⟩ := Wk.offer_may (x := x) h0 (by assumption)
      refine TC.seq ?_
      refine TC.region ?_
      refine TL.assign rfl rfl ?_
      refine TL.assign rfl rfl ?_
      refine TL.done ?_
      refine Thn.go ?_
      refine TC.ret ?_
      refine Thn.ret ?_
      refine Ends.ret [4, 5] rfl rfl ?_
      exact ⟨_, by rw [e1]; rfl, by rw [e2]; exact World.ownsRow_nil _ _ _ _, q14⟩
    ·
      have hmay : Wk.may x := Decidable.not_not.1 (by assumption)
      refine TC.skip ?_
      refine Thn.go ?_
      refine TC.seq ?_
      refine TC.cut0 ([(0, .slice ad l.length c), (3, .pointer (some ⟨w.heap.size, 0, none⟩)), (35, .bool (decide (x.state.toNat ≠ 1 ∨ (0 < l.length ∧ x.id ≤ (Wk.rec l (l.length - 1)).id))))]) (fun w2 => Ch [] w14 w2) (fun K3 hK3 => ?_) (fun w2 hM => ?_)
      ·
        refine TC.regionQ (fun w4 => Ch [] w14 w4) mixed0 (by kernel_rfl) (Ch.drew [] _) ?_
        refine TQ.via rfl rfl rfl rfl (fun w2 hw2 => TL.fieldAddr fd33k4 rfl rfl (TL.done ⟨rfl, rfl⟩)) ?_
        refine TQ.via rfl rfl rfl rfl (fun w2 hw2 => TL.load pl5 rfl ((show _ = some (u8 x.state) from (hb14.ch0 hw2).cell _)) rfl (TL.done ⟨rfl, rfl⟩)) ?_
        refine TQ.via rfl rfl rfl rfl (fun w2 hw2 => TL.neq rfl rfl rfl (TL.done ⟨rfl, rfl⟩)) ?_
        refine TQ.em (fun e18 => ?_) (fun e18 => ?_)
        ·
          refine TQ.via rfl rfl rfl rfl (fun w2 hw2 => TL.move rfl rfl (TL.done ⟨rfl, rfl⟩)) ?_
          refine TQ.guardNo (d := 19) rfl rfl rfl rfl rfl ?_
          refine TQ.guardNo (d := 19) rfl rfl rfl rfl rfl ?_
          refine TQ.guardNo (d := 19) rfl rfl rfl rfl rfl ?_
          refine TQ.guardNo (d := 19) rfl rfl rfl rfl rfl ?_
          refine TQ.guardUndef (d := 23) rfl rfl rfl rfl ?_
          refine TQ.guardUndef (d := 23) rfl rfl rfl rfl ?_
          refine TQ.guardUndef (d := 23) rfl rfl rfl rfl ?_
          refine TQ.guardUndef (d := 23) rfl rfl rfl rfl ?_
          refine TQ.guardUndef (d := 23) rfl rfl rfl rfl ?_
          refine TQ.guardUndef (d := 23) rfl rfl rfl rfl ?_
          refine TQ.guardUndef (d := 23) rfl rfl rfl rfl ?_
          refine TQ.guardUndef (d := 23) rfl rfl rfl rfl ?_
          refine TQ.guardUndef (d := 23) rfl rfl rfl rfl ?_
          refine TQ.guardUndef (d := 23) rfl rfl rfl rfl ?_
          refine TQ.guardNo (d := 19) rfl rfl rfl rfl rfl ?_
          refine TQ.via rfl rfl rfl rfl (fun w2 hw2 => TL.pickT rfl rfl rfl rfl (TL.done ⟨rfl, rfl⟩)) ?_
          refine TQ.done (fun w2 hw2 => ?_)
          exact hK3  _ _ (by repeat (first | exact trivial | refine ⟨rfl, ?_⟩ | refine ⟨congrArg (fun b => some (Value.bool b)) (by first | exact (decide_eq_true (by grind)).symm | exact (decide_eq_false (by grind)).symm | exact decide_eq_decide.2 (by grind) | exact decide_eq_true (by grind) | exact decide_eq_false (by grind) | (exfalso; grind)), ?_⟩)) (by first | exact hw2 | exact Ch.refl _ _)
        ·
          refine TQ.via rfl rfl rfl rfl (fun w2 hw2 => TL.move rfl rfl (TL.done ⟨rfl, rfl⟩)) ?_
          refine TQ.guardYes (d := 19) rfl rfl rfl ?_
          refine TQ.via rfl rfl rfl rfl (fun w2 hw2 => TL.move rfl rfl (TL.done ⟨rfl, rfl⟩)) ?_
          refine TQ.guardYes (d := 19) rfl rfl rfl ?_
          refine TQ.via rfl rfl rfl rfl (fun w2 hw2 => TL.lenSlice Try.underlying22 rfl rfl (TL.done ⟨rfl, rfl⟩)) ?_
          refine TQ.guardYes (d := 19) rfl rfl rfl ?_
          refine TQ.via rfl rfl rfl rfl (fun w2 hw2 => TL.gtr rfl rfl rfl (TL.done ⟨rfl, rfl⟩)) ?_
          refine TQ.em (fun e22 => ?_) (fun e22 => ?_)
          ·
            obtain ⟨b1, o1, rfl, hce⟩ := recAt (i := l.length - 1) (ha.ch0 q14) (by omega)
            have hce2 : ∀ w2, Ch [] w14 w2 → ∀ j, j < 6 → w2.cell? ⟨b1, o1 + (l.length - 1) * 6 + j, none⟩ = (cl (Wk.rec l (l.length - 1)))[j]? := fun w2 h2 => by obtain ⟨b', o', e, hh⟩ := recAt (i := l.length - 1) ((ha.ch0 q14).ch0 h2) (by omega); cases e; exact hh
            refine TQ.guardYes (d := 19) rfl rfl rfl ?_
            refine TQ.via rfl rfl rfl rfl (fun w2 hw2 => TL.move rfl rfl (TL.done ⟨rfl, rfl⟩)) ?_
            refine TQ.guardYes (d := 23) rfl rfl rfl ?_
            refine TQ.via rfl rfl rfl rfl (fun w2 hw2 => TL.fieldAddr fd33k0 rfl rfl (TL.done ⟨rfl, rfl⟩)) ?_
            refine TQ.guardYes (d := 23) rfl rfl rfl ?_
            refine TQ.via rfl rfl rfl rfl (fun w2 hw2 => TL.load pl3 rfl ((show _ = some (Value.int .i64 x.id) from (hb14.ch0 hw2).cell _)) rfl (TL.done ⟨rfl, rfl⟩)) ?_
            refine TQ.guardYes (d := 23) rfl rfl rfl ?_
            refine TQ.via rfl rfl rfl rfl (fun w2 hw2 => TL.move rfl rfl (TL.done ⟨rfl, rfl⟩)) ?_
            refine TQ.guardYes (d := 23) rfl rfl rfl ?_
            refine TQ.via rfl rfl rfl rfl (fun w2 hw2 => TL.move rfl rfl (TL.done ⟨rfl, rfl⟩)) ?_
            refine TQ.guardYes (d := 23) rfl rfl rfl ?_
            refine TQ.via rfl rfl rfl rfl (fun w2 hw2 => TL.lenSlice Try.underlying22 rfl rfl (TL.done ⟨rfl, rfl⟩)) ?_
            refine TQ.guardYes (d := 23) rfl rfl rfl ?_
            refine TQ.via rfl rfl rfl rfl (fun w2 hw2 => TL.sub_i64 rfl rfl (by omega) (by omega) rfl (TL.done ⟨rfl, rfl⟩)) ?_
            refine TQ.guardYes (d := 23) rfl rfl rfl ?_
            refine TQ.via rfl rfl rfl rfl (fun w2 hw2 => TL.indexAddr (l.length - 1) sl22 rfl rfl (by first | rfl | omega) (by omega) rfl (TL.done ⟨rfl, rfl⟩)) ?_
            refine TQ.guardYes (d := 23) rfl rfl rfl ?_
            refine TQ.via rfl rfl rfl rfl (fun w2 hw2 => TL.fieldAddr fd33k0 rfl rfl (TL.done ⟨rfl, rfl⟩)) ?_
            refine TQ.guardYes (d := 23) rfl rfl rfl ?_
            refine TQ.via rfl rfl rfl rfl (fun w2 hw2 => TL.load pl3 rfl ((show _ = some (Value.int .i64 (Wk.rec l (l.length - 1)).id) from hce2 _ hw2 0 (by decide))) rfl (TL.done ⟨rfl, rfl⟩)) ?_
            refine TQ.guardYes (d := 23) rfl rfl rfl ?_
            refine TQ.via rfl rfl rfl rfl (fun w2 hw2 => TL.leq rfl rfl rfl (TL.done ⟨rfl, rfl⟩)) ?_
            refine TQ.guardYes (d := 19) rfl rfl rfl ?_
            refine TQ.via rfl rfl rfl rfl (fun w2 hw2 => TL.pickT rfl rfl rfl rfl (TL.done ⟨rfl, rfl⟩)) ?_
            refine TQ.via rfl rfl rfl rfl (fun w2 hw2 => TL.pickF rfl rfl rfl rfl (TL.done ⟨rfl, rfl⟩)) ?_
            refine TQ.done (fun w2 hw2 => ?_)
            exact hK3  _ _ (by repeat (first | exact trivial | refine ⟨rfl, ?_⟩ | refine ⟨congrArg (fun b => some (Value.bool b)) (by first | exact (decide_eq_true (by grind)).symm | exact (decide_eq_false (by grind)).symm | exact decide_eq_decide.2 (by grind) | exact decide_eq_true (by grind) | exact decide_eq_false (by grind) | (exfalso; grind)), ?_⟩)) (by first | exact hw2 | exact Ch.refl _ _)
          ·
            refine TQ.guardYes (d := 19) rfl rfl rfl ?_
            refine TQ.via rfl rfl rfl rfl (fun w2 hw2 => TL.move rfl rfl (TL.done ⟨rfl, rfl⟩)) ?_
            refine TQ.guardNo (d := 23) rfl rfl rfl rfl rfl ?_
            refine TQ.guardNo (d := 23) rfl rfl rfl rfl rfl ?_
            refine TQ.guardNo (d := 23) rfl rfl rfl rfl rfl ?_
            refine TQ.guardNo (d := 23) rfl rfl rfl rfl rfl ?_
            refine TQ.guardNo (d := 23) rfl rfl rfl rfl rfl ?_
            refine TQ.guardNo (d := 23) rfl rfl rfl rfl rfl ?_
            refine TQ.guardNo (d := 23) rfl rfl rfl rfl rfl ?_
            refine TQ.guardNo (d := 23) rfl rfl rfl rfl rfl ?_
            refine TQ.guardNo (d := 23) rfl rfl rfl rfl rfl ?_
            refine TQ.guardNo (d := 23) rfl rfl rfl rfl rfl ?_
            refine TQ.guardYes (d := 19) rfl rfl rfl ?_
            refine TQ.via rfl rfl rfl rfl (fun w2 hw2 => TL.pickF rfl rfl rfl rfl (TL.done ⟨rfl, rfl⟩)) ?_
            refine TQ.via rfl rfl rfl rfl (fun w2 hw2 => TL.pickF rfl rfl rfl rfl (TL.done ⟨rfl, rfl⟩)) ?_
            refine TQ.done (fun w2 hw2 => ?_)
            exact hK3  _ _ (by repeat (first | exact trivial | refine ⟨rfl, ?_⟩ | refine ⟨congrArg (fun b => some (Value.bool b)) (by first | exact (decide_eq_true (by grind)).symm | exact (decide_eq_false (by grind)).symm | exact decide_eq_decide.2 (by grind) | exact decide_eq_true (by grind) | exact decide_eq_false (by grind) | (exfalso; grind)), ?_⟩)) (by first | exact hw2 | exact Ch.refl _ _)
      ·
        refine TC.condP rfl (fun h6 => ?_) (fun h6 => ?_)
        ·
          obtain ⟨e1, e2⟩ := Wk.offer_fit (l := l) h0 hmay (by assumption)
          refine TC.seq ?_
          refine TC.region ?_
          refine TL.assign rfl rfl ?_
          refine TL.assign rfl rfl ?_
          refine TL.done ?_
          refine Thn.go ?_
          refine TC.ret ?_
          refine Thn.ret ?_
          refine Ends.ret [4, 5] rfl rfl ?_
          exact ⟨_, by rw [e1]; rfl, by rw [e2]; exact World.ownsRow_nil _ _ _ _, q14.trans0 hM⟩
        ·
          have hfit : ¬ (x.state.toNat ≠ 1 ∨ (0 < l.length ∧ x.id ≤ (Wk.rec l (l.length - 1)).id)) := by assumption
          refine TC.skip ?_
          refine Thn.go ?_
          refine TC.seq ?_
          refine TC.seq ?_
          refine TC.region ?_
          refine TL.move rfl rfl ?_
          refine TL.lenSlice Try.underlying22 rfl rfl ?_
          refine TL.eql rfl rfl rfl ?_
          refine TL.done ?_
          refine Thn.go ?_
          refine TC.condP rfl (fun h7 => ?_) (fun h7 => ?_)
          ·
            obtain ⟨e1, e2⟩ := Wk.offer_many (l := l) h0 hmay hfit (by omega)
            refine TC.seq ?_
            refine TC.region ?_
            refine TL.assign rfl rfl ?_
            refine TL.assign rfl rfl ?_
            refine TL.done ?_
            refine Thn.go ?_
            refine TC.ret ?_
            refine Thn.ret ?_
            refine Ends.ret [4, 5] rfl rfl ?_
            exact ⟨_, by rw [e1]; rfl, by rw [e2]; exact World.ownsRow_nil _ _ _ _, q14.trans0 hM⟩
          ·
            obtain ⟨e1, e2⟩ := Wk.offer_ok (l := l) h0 hmay hfit (by omega)
            have q2 : Ch [] w w2 := q14.trans0 hM
            have z1 := q2.size
            refine TC.skip ?_
            refine Thn.go ?_
            refine TC.seq ?_
            refine TC.region ?_
            refine TL.assign rfl rfl ?_
            refine TL.done ?_
            refine Thn.go ?_
            refine TC.seq ?_
            refine TC.region ?_
            refine TL.move rfl rfl ?_
            refine TL.move rfl rfl ?_
            refine TL.append sl22 rfl rfl rfl (World.ownsRow_nil _ w.heap.size _ _) (News.ofRd Try.underlying22 (ha.ch0 q2) (rows_one _)) (by omega) (by omega) (by omega) (fun v41 w41 hv41 hc41 _ => ?_)
            have q41 : Ch [] w w41 := Own.thenCh (World.ownsRow_nil w2 w.heap.size 33 6) q2 hc41
            have q241 : Ch [] w2 w41 := Own.thenCh (World.ownsRow_nil w2 w2.heap.size 33 6) (Ch.refl _ _) hc41
            have z2 := q41.size
            rw [Nat.zero_add, List.nil_append] at hv41
            refine TL.assign rfl rfl ?_
            refine TL.done ?_
            refine Thn.go ?_
            refine TC.seq ?_
            refine TC.region ?_
            refine TL.move rfl rfl ?_
            refine TL.loadAgg (cl x) ag33 rfl rfl (fun j _ => by rw [((hb14.ch0 hM).ch0 q241).cell, Nat.zero_add, List.getElem?_toArray]) rfl ?_
            refine TL.buildSlice [.tmp 43] sl22 rfl rfl rfl (by decide) (by first | simp [Value.cells]; done | simp [Value.cells, cl_len]; done) rfl (fun w44 hb44 hc44 hz44 => ?_)
            refine TL.append sl22 rfl rfl rfl (hv41.ch0 hc44) (News.ofRd Try.underlying22 (recOne hb44) (rows_one _)) (by omega) (by omega) (by omega) (fun v45 w45 hv45 hc45 _ => ?_)
            refine TL.assign rfl rfl ?_
            refine TL.assign rfl rfl ?_
            refine TL.done ?_
            refine Thn.go ?_
            refine TC.ret ?_
            refine Ends.ret [4, 5] rfl rfl ?_
            exact ⟨_, by rw [e1]; rfl, by rw [e2, List.length_append, List.flatMap_append]; exact hv45, (hv41.ch0 hc44).thenCh (q41.trans0 hc44) hc45⟩

