/-
  Walks through the given program: each theorem fnN says what the call of function N of the translation hands back, for all arguments that its premises describe, and that nothing that was there has turned.
-/
import Derived.Test.YtjnagpddiemdhaaW13
import Derived.Test.YtjnagpddiemdhaaWk4
namespace Go.Proofs.Ytjnagpddiemdhaa
open Go.Lane
theorem can14 : Callable Try.prog 14 := ⟨Try.f14, Try.func14, by kernel_rfl, rfl⟩

theorem fn6 (a : Value) (l : List Wk.Work) (id : Int) (u v : List UInt8) (w : World) (ha : Rd w a 6 l.length (l.flatMap cl)) : Rets Try.prog 6 #[a, .int .i64 id, str u, str v] w (fun r w' => r = .bool true ∧ Ch [] w w') := by
  obtain ⟨ad, c, rfl, _⟩ := ha.shape
  have hmx : l.length ≤ 9223372036854775807 := ha.nlt
  refine Rets.of (n := 220) (vs := [_, _, _, _]) Try.func6 rfl rfl rfl ?_
  refine TC.seq ?_
  refine TC.region ?_
  refine TL.assign rfl rfl ?_
  refine TL.done ?_
  refine Thn.go ?_
  refine TC.seq ?_
  refine TC.region ?_
  refine TL.call can13 rfl rfl (fn13 w) (fun v33 w33 hr33 => ?_)
  obtain ⟨rfl, hc33⟩ := hr33
  refine TL.assign rfl rfl ?_
  refine TL.done ?_
  refine Thn.go ?_
  refine TC.seq ?_
  refine TC.cut0 ([(0, .slice ad l.length c), (1, .int .i64 id), (2, str u), (3, str v), (9, .bool true), (40, .bool (decide (600 < l.length)))]) (fun w2 => w33 = w2) (fun K1 hK1 => ?_) (fun w2 hH => ?_)
  ·
    refine TC.region ?_
    refine TL.move rfl rfl ?_
    refine TL.lenSlice Try.underlying22 rfl rfl ?_
    refine TL.gtr rfl rfl rfl ?_
    refine TL.em (fun e36 => ?_) (fun e36 => ?_)
    ·
      refine TL.move rfl rfl ?_
      refine TL.guardNo (d := 37) rfl rfl rfl rfl rfl ?_
      refine TL.guardNo (d := 37) rfl rfl rfl rfl rfl ?_
      refine TL.pickT rfl rfl rfl rfl ?_
      refine TL.done ?_
      exact hK1  _ _ (by repeat (first | exact trivial | refine ⟨rfl, ?_⟩ | refine ⟨congrArg (fun b => some (Value.bool b)) (by first | exact (decide_eq_true (by grind)).symm | exact (decide_eq_false (by grind)).symm | exact decide_eq_decide.2 (by grind) | exact decide_eq_true (by grind) | exact decide_eq_false (by grind) | (exfalso; grind)), ?_⟩)) (rfl)
    ·
      refine TL.move rfl rfl ?_
      refine TL.guardYes (d := 37) rfl rfl rfl ?_
      refine TL.move rfl rfl ?_
      refine TL.guardYes (d := 37) rfl rfl rfl ?_
      refine TL.not rfl rfl ?_
      refine TL.pickF rfl rfl rfl rfl ?_
      refine TL.done ?_
      exact hK1  _ _ (by repeat (first | exact trivial | refine ⟨rfl, ?_⟩ | refine ⟨congrArg (fun b => some (Value.bool b)) (by first | exact (decide_eq_true (by grind)).symm | exact (decide_eq_false (by grind)).symm | exact decide_eq_decide.2 (by grind) | exact decide_eq_true (by grind) | exact decide_eq_false (by grind) | (exfalso; grind)), ?_⟩)) (rfl)
  ·
    subst hH
    refine TC.condP rfl (fun h3 => ?_) (fun h3 => ?_)
    ·
      refine TC.seq ?_
      refine TC.region ?_
      refine TL.move rfl rfl ?_
      refine TL.assign rfl rfl ?_
      refine TL.done ?_
      refine Thn.go ?_
      refine TC.ret ?_
      refine Thn.ret ?_
      refine Ends.ret [8] rfl rfl ?_
      exact ⟨rfl, hc33⟩
    ·
      have hno : ¬ 600 < l.length := by assumption
      refine TC.skip ?_
      refine Thn.go ?_
      refine TC.seq ?_
      refine TC.region ?_
      refine TL.move rfl rfl ?_
      refine TL.move rfl rfl ?_
      refine TL.move rfl rfl ?_
      refine TL.call can17 rfl rfl (fn17 _ l id u w33 (ha.ch0 hc33)) (fun v46 w46 hr46 => ?_)
      obtain ⟨r46, rfl, hv46, hc46⟩ := hr46
      have q46 := hc33.trans0 hc46
      obtain ⟨a46, c46, rfl⟩ := hv46.shape
      refine TL.move rfl rfl ?_
      refine TL.extract rfl rfl rfl ?_
      refine TL.extract rfl rfl rfl ?_
      refine TL.assign rfl rfl ?_
      refine TL.assign rfl rfl ?_
      refine TL.done ?_
      refine Thn.go ?_
      refine TC.seq ?_
      refine TC.seq ?_
      refine TC.region ?_
      refine TL.move rfl rfl ?_
      refine TL.neq rfl rfl rfl ?_
      refine TL.done ?_
      refine Thn.go ?_
      refine TC.condP rfl (fun h4 => ?_) (fun h4 => ?_)
      ·
        have e1 : Wk.turnL l id u 1 2 = [] := Wk.turn_empty (by omega)
        refine TC.seq ?_
        refine TC.region ?_
        refine TL.move rfl rfl ?_
        refine TL.lenSlice Try.underlying22 rfl rfl ?_
        refine TL.eql rfl rfl rfl ?_
        refine TL.assign rfl rfl ?_
        refine TL.done ?_
        refine Thn.go ?_
        refine TC.ret ?_
        refine Thn.ret ?_
        refine Ends.ret [8] rfl rfl ?_
        exact ⟨by rw [e1]; rfl, q46⟩
      ·
        obtain ⟨i, t1⟩ := Wk.Turned.of (l := l) (id := id) (u := u) (by omega)
        obtain ⟨L1, hL1⟩ : ∃ L1, Wk.turnL l id u 1 2 = L1 := ⟨_, rfl⟩
        rw [hL1] at hv46 t1
        rw [hL1]
        have hd2 : (2 : UInt8).toNat = 1 ∨ (2 : UInt8).toNat = 2 ∨ (2 : UInt8).toNat = 3 := by decide
        have hd3 : (3 : UInt8).toNat = 1 ∨ (3 : UInt8).toNat = 2 ∨ (3 : UInt8).toNat = 3 := by decide
        obtain ⟨b1, tb⟩ := t1.again 1
        obtain ⟨_, t3⟩ := t1.again 3
        have hbk := tb.back
        have hn1 : Wk.turnE L1 id v 1 ≠ 0 := t1.no hd2 (fun h => absurd h.1 (show ¬ (2 : UInt8).toNat = 1 by decide))
        refine TC.skip ?_
        refine Thn.go ?_
        refine TC.seq ?_
        refine TC.region ?_
        refine TL.move rfl rfl ?_
        refine TL.move rfl rfl ?_
        refine TL.move rfl rfl ?_
        refine TL.call can17 rfl rfl (fn17 _ L1 id v w46 (Rd.ofOwn hv46)) (fun v58 w58 hr58 => ?_)
        obtain ⟨r58, rfl, hv58, hc58⟩ := hr58
        refine TL.move rfl rfl ?_
        refine TL.extract rfl rfl rfl ?_
        refine TL.extract rfl rfl rfl ?_
        refine TL.assign rfl rfl ?_
        refine TL.assign rfl rfl ?_
        refine TL.done ?_
        refine Thn.go ?_
        refine TC.seq ?_
        refine TC.region ?_
        refine TL.move rfl rfl ?_
        refine TL.move rfl rfl ?_
        refine TL.move rfl rfl ?_
        refine TL.call can19 rfl rfl (fn19 _ L1 id u w58 (Rd.ofOwn (hv46.ch0 hc58))) (fun v65 w65 hr65 => ?_)
        obtain ⟨r65, rfl, hv65, hc65⟩ := hr65
        rw [b1]
        rw [hbk] at hv65
        have g65 := hc58.trans0 hc65
        refine TL.move rfl rfl ?_
        refine TL.extract rfl rfl rfl ?_
        refine TL.extract rfl rfl rfl ?_
        refine TL.assign rfl rfl ?_
        refine TL.assign rfl rfl ?_
        refine TL.done ?_
        refine Thn.go ?_
        refine TC.seq ?_
        refine TC.region ?_
        refine TL.move rfl rfl ?_
        refine TL.move rfl rfl ?_
        refine TL.move rfl rfl ?_
        refine TL.call can21 rfl rfl (fn21 _ L1 id u w65 (Rd.ofOwn (hv46.ch0 g65))) (fun v72 w72 hr72 => ?_)
        obtain ⟨r72, rfl, hv72, hc72⟩ := hr72
        rw [b1]
        obtain ⟨L3, hL3⟩ : ∃ L3, Wk.turnL L1 id u 2 3 = L3 := ⟨_, rfl⟩
        rw [hL3] at hv72 t3
        obtain ⟨a72, c72, rfl⟩ := hv72.shape
        have g72 := g65.trans0 hc72
        refine TL.move rfl rfl ?_
        refine TL.extract rfl rfl rfl ?_
        refine TL.extract rfl rfl rfl ?_
        refine TL.assign rfl rfl ?_
        refine TL.assign rfl rfl ?_
        refine TL.done ?_
        refine Thn.go ?_
        refine TC.seq ?_
        refine TC.cut0 ([(1, .int .i64 id), (2, str u), (3, str v), (10, .slice a46 L1.length c46), (16, .slice a72 L3.length c72), (95, .bool false)]) (fun wa => Ch [] w72 wa) (fun K5 hK5 => ?_) (fun wa hA => ?_)
        ·
          refine TC.region ?_
          refine TL.move rfl rfl ?_
          refine TL.eql rfl rfl rfl ?_
          refine TL.no (by omega) ?_
          refine TL.move rfl rfl ?_
          refine TL.guardYes (d := 77) rfl rfl rfl ?_
          refine TL.move rfl rfl ?_
          refine TL.guardYes (d := 77) rfl rfl rfl ?_
          refine TL.neq rfl rfl rfl ?_
          refine TL.no (by simp) ?_
          refine TL.pickF rfl rfl rfl rfl ?_
          refine TL.move rfl rfl ?_
          refine TL.guardYes (d := 81) rfl rfl rfl ?_
          refine TL.move rfl rfl ?_
          refine TL.guardYes (d := 81) rfl rfl rfl ?_
          refine TL.move rfl rfl ?_
          refine TL.guardYes (d := 81) rfl rfl rfl ?_
          refine TL.call can14 rfl rfl (fn14 _ _ l l w72 (Rd.ofOwn (hv65.ch0 hc72)) ((ha.ch0 hc33).ch0 (hc46.trans0 g72))) (fun v84 w84 hr84 => ?_)
          obtain ⟨rfl, hc84⟩ := hr84
          refine TL.yes (rfl) ?_
          refine TL.guardYes (d := 81) rfl rfl rfl ?_
          refine TL.not rfl rfl ?_
          refine TL.pickF rfl rfl rfl rfl ?_
          refine TL.move rfl rfl ?_
          refine TL.guardYes (d := 87) rfl rfl rfl ?_
          refine TL.move rfl rfl ?_
          refine TL.guardYes (d := 87) rfl rfl rfl ?_
          refine TL.neq rfl rfl rfl ?_
          refine TL.no (by simp) ?_
          refine TL.pickF rfl rfl rfl rfl ?_
          refine TL.move rfl rfl ?_
          refine TL.guardYes (d := 91) rfl rfl rfl ?_
          refine TL.move rfl rfl ?_
          refine TL.guardYes (d := 91) rfl rfl rfl ?_
          refine TL.call can25 rfl rfl (fn25 _ L3 w84 (Rd.ofOwn (hv72.ch0 hc84))) (fun v93 w93 hr93 => ?_)
          obtain ⟨rfl, hc93⟩ := hr93
          rw [t3.good_ hd3]
          refine TL.guardYes (d := 91) rfl rfl rfl ?_
          refine TL.neq rfl rfl rfl ?_
          refine TL.no (by simp) ?_
          refine TL.pickF rfl rfl rfl rfl ?_
          refine TL.done ?_
          exact hK5  _ _ (by repeat (first | exact trivial | refine ⟨rfl, ?_⟩ | refine ⟨congrArg (fun b => some (Value.bool b)) (by first | exact (decide_eq_true (by grind)).symm | exact (decide_eq_false (by grind)).symm | exact decide_eq_decide.2 (by grind) | exact decide_eq_true (by grind) | exact decide_eq_false (by grind) | (exfalso; grind)), ?_⟩)) (hc84.trans0 hc93)
        ·
          have gA : Ch [] w46 wa := g72.trans0 hA
          refine TC.condF rfl rfl ?_
          refine TC.skip ?_
          refine Thn.go ?_
          refine TC.cut0 ([(1, .int .i64 id), (2, str u), (3, str v), (16, .slice a72 L3.length c72)]) (fun wm => Ch [] wa wm) (fun K7 hK7 => ?_) (fun wm hM => ?_)
          ·
            refine TC.seq ?_
            refine TC.region ?_
            refine TL.move rfl rfl ?_
            refine TL.move rfl rfl ?_
            refine TL.neqStr rfl rfl rfl ?_
            refine TL.done ?_
            refine Thn.go ?_
            refine TC.condP rfl (fun h8 => ?_) (fun h8 => ?_)
            ·
              have hvu : v ≠ u := by assumption
              have hn2 : Wk.turnE L1 id v 2 ≠ 0 := t1.no hd2 (fun h => hvu (h.2 rfl).symm)
              refine TC.seq ?_
              refine TC.region ?_
              refine TL.move rfl rfl ?_
              refine TL.move rfl rfl ?_
              refine TL.move rfl rfl ?_
              refine TL.call can19 rfl rfl (fn19 _ L1 id v wa (Rd.ofOwn (hv46.ch0 gA))) (fun v103 w103 hr103 => ?_)
              obtain ⟨r103, rfl, hv103, hc103⟩ := hr103
              refine TL.move rfl rfl ?_
              refine TL.extract rfl rfl rfl ?_
              refine TL.extract rfl rfl rfl ?_
              refine TL.assign rfl rfl ?_
              refine TL.assign rfl rfl ?_
              refine TL.done ?_
              refine Thn.go ?_
              refine TC.seq ?_
              refine TC.region ?_
              refine TL.move rfl rfl ?_
              refine TL.move rfl rfl ?_
              refine TL.move rfl rfl ?_
              refine TL.call can21 rfl rfl (fn21 _ L1 id v w103 (Rd.ofOwn ((hv46.ch0 gA).ch0 hc103))) (fun v110 w110 hr110 => ?_)
              obtain ⟨r110, rfl, hv110, hc110⟩ := hr110
              refine TL.move rfl rfl ?_
              refine TL.extract rfl rfl rfl ?_
              refine TL.extract rfl rfl rfl ?_
              refine TL.assign rfl rfl ?_
              refine TL.assign rfl rfl ?_
              refine TL.done ?_
              refine Thn.go ?_
              refine TC.seq ?_
              refine TC.region ?_
              refine TL.move rfl rfl ?_
              refine TL.eql rfl rfl rfl ?_
              refine TL.no (by omega) ?_
              refine TL.move rfl rfl ?_
              refine TL.guardYes (d := 115) rfl rfl rfl ?_
              refine TL.move rfl rfl ?_
              refine TL.guardYes (d := 115) rfl rfl rfl ?_
              refine TL.eql rfl rfl rfl ?_
              refine TL.no (by omega) ?_
              refine TL.pickF rfl rfl rfl rfl ?_
              refine TL.done ?_
              refine Thn.go ?_
              refine TC.condF rfl rfl ?_
              refine TC.skip ?_
              exact hK7  _ _ (by repeat (first | exact trivial | refine ⟨rfl, ?_⟩ | refine ⟨congrArg (fun b => some (Value.bool b)) (by first | exact (decide_eq_true (by grind)).symm | exact (decide_eq_false (by grind)).symm | exact decide_eq_decide.2 (by grind) | exact decide_eq_true (by grind) | exact decide_eq_false (by grind) | (exfalso; grind)), ?_⟩)) (hc103.trans0 hc110)
            ·
              refine TC.skip ?_
              exact hK7  _ _ (by repeat (first | exact trivial | refine ⟨rfl, ?_⟩ | refine ⟨congrArg (fun b => some (Value.bool b)) (by first | exact (decide_eq_true (by grind)).symm | exact (decide_eq_false (by grind)).symm | exact decide_eq_decide.2 (by grind) | exact decide_eq_true (by grind) | exact decide_eq_false (by grind) | (exfalso; grind)), ?_⟩)) (Ch.refl _ _)
          ·
            have hv3 := (hv72.ch0 hA).ch0 hM
            have hl3 := t3.len
            have qm : Ch [] w wm := (q46.trans0 gA).trans0 hM
            have hn3 : Wk.turnE L3 id v 1 ≠ 0 := t3.no hd3 (fun h => absurd h.1 (show ¬ (3 : UInt8).toNat = 1 by decide))
            have h230 : Wk.turnE L3 id u 2 = 230 := t3.no230 hd3 t3.nm (fun h => absurd h.1 (show ¬ (3 : UInt8).toNat = 2 by decide))
            refine TC.seq ?_
            refine TC.seq ?_
            refine TC.region ?_
            refine TL.assign rfl rfl ?_
            refine TL.done ?_
            refine Thn.go ?_
            refine TC.block ?_
            refine TC.loop1 (fun (j : Nat) => [(1, .int .i64 id), (2, str u), (3, str v), (16, .slice a72 L3.length c72), (22, .int .i64 (j : Int))]) (fun j w' => j ≤ L3.length ∧ (∀ q, q < j → (Wk.rec L3 q).id ≠ id) ∧ Ch [] wm w') (fun j => L3.length - j) 0 (by repeat (first | exact trivial | refine ⟨rfl, ?_⟩)) (⟨by omega, by intro q hq; omega, Ch.refl _ _⟩) (fun j w' hH => ?_)
            obtain ⟨hj, hg, hch⟩ := hH
            refine TC.seq ?_
            refine TC.seq ?_
            refine TC.region ?_
            refine TL.move rfl rfl ?_
            refine TL.move rfl rfl ?_
            refine TL.lenSlice Try.underlying22 rfl rfl ?_
            refine TL.lss rfl rfl rfl ?_
            refine TL.done ?_
            refine Thn.go ?_
            refine TC.condP rfl (fun h10 => ?_) (fun h10 => ?_)
            ·
              have hjl : j < L3.length := by omega
              have hv4 := hv3.ch0 hch
              obtain ⟨gb, gc, e72⟩ := hv4.form (by omega)
              cases e72
              have hce : ∀ w2, Ch [] w' w2 → ∀ q, q < 6 → w2.cell? ⟨gb, 0 + j * 6 + q, none⟩ = (cl (Wk.rec L3 j))[q]? := fun w2 h2 q hq => by obtain ⟨b', o', e, hh⟩ := recAt (i := j) (Rd.ofOwn (hv4.ch0 h2)) hjl; cases e; exact hh q hq
              refine TC.skip ?_
              refine Thn.go ?_
              refine TC.seq ?_
              refine TC.block ?_
              refine TC.seq ?_
              refine TC.seq ?_
              refine TC.region ?_
              refine TL.move rfl rfl ?_
              refine TL.move rfl rfl ?_
              refine TL.indexAddr (j) sl22 rfl rfl (by first | rfl | omega) (by omega) rfl ?_
              refine TL.fieldAddr fd33k0 rfl rfl ?_
              refine TL.load pl3 rfl ((show _ = some (Value.int .i64 (Wk.rec L3 j).id) from hce _ (Ch.refl _ _) 0 (by decide))) rfl ?_
              refine TL.move rfl rfl ?_
              refine TL.neq rfl rfl rfl ?_
              refine TL.done ?_
              refine Thn.go ?_
              refine TC.condP rfl (fun h11 => ?_) (fun h11 => ?_)
              ·
                refine TC.exit ?_
                refine Thn.exit ?_
                refine Blk.hit ?_
                refine Thn.go ?_
                refine TC.region ?_
                refine TL.move rfl rfl ?_
                refine TL.add_i64 rfl rfl (by omega) (by omega) rfl ?_
                refine TL.assign rfl rfl ?_
                refine TL.done ?_
                refine Lp.go (j + 1) (by repeat (first | exact trivial | refine ⟨rfl, ?_⟩)) ?_ (by first | omega | (dsimp only; omega))
                refine ⟨by omega, fun q hq => ?_, hch⟩
                rcases Nat.lt_or_ge q j with h | h
                · exact hg q h
                · rw [show q = j by omega]; assumption
              ·
                have hid : (Wk.rec L3 j).id = id := Decidable.not_not.1 (by assumption)
                have hji : j = i := t3.one hd3 hjl hid
                have hY : Wk.rec L3 j = Wk.turn1 (Wk.rec l i) u 3 := by rw [hji]; exact t3.here
                have hkeep : Wk.rec L3 j ∈ Wk.dropL L3 (Wk.rec L3 j).cas (Wk.rec L3 j).stage := by rw [hji]; exact t3.kept _ _
                refine TC.skip ?_
                refine Thn.go ?_
                refine TC.seq ?_
                refine TC.region ?_
                refine TL.move rfl rfl ?_
                refine TL.move rfl rfl ?_
                refine TL.move rfl rfl ?_
                refine TL.call can17 rfl rfl (fn17 _ L3 id v w' (Rd.ofOwn hv4)) (fun v136 w136 hr136 => ?_)
                obtain ⟨r136, rfl, _, hc136⟩ := hr136
                refine TL.move rfl rfl ?_
                refine TL.extract rfl rfl rfl ?_
                refine TL.extract rfl rfl rfl ?_
                refine TL.assign rfl rfl ?_
                refine TL.assign rfl rfl ?_
                refine TL.done ?_
                refine Thn.go ?_
                refine TC.seq ?_
                refine TC.region ?_
                refine TL.move rfl rfl ?_
                refine TL.move rfl rfl ?_
                refine TL.move rfl rfl ?_
                refine TL.call can19 rfl rfl (fn19 _ L3 id u w136 (Rd.ofOwn (hv4.ch0 hc136))) (fun v143 w143 hr143 => ?_)
                obtain ⟨r143, rfl, _, hc143⟩ := hr143
                rw [h230]
                have g143 := hc136.trans0 hc143
                refine TL.move rfl rfl ?_
                refine TL.extract rfl rfl rfl ?_
                refine TL.extract rfl rfl rfl ?_
                refine TL.assign rfl rfl ?_
                refine TL.assign rfl rfl ?_
                refine TL.done ?_
                refine Thn.go ?_
                refine TC.seq ?_
                refine TC.region ?_
                refine TL.move rfl rfl ?_
                refine TL.move rfl rfl ?_
                refine TL.move rfl rfl ?_
                refine TL.call can21 rfl rfl (fn21 _ L3 id u w143 (Rd.ofOwn (hv4.ch0 g143))) (fun v150 w150 hr150 => ?_)
                obtain ⟨r150, rfl, _, hc150⟩ := hr150
                rw [h230]
                have g150 := g143.trans0 hc150
                refine TL.move rfl rfl ?_
                refine TL.extract rfl rfl rfl ?_
                refine TL.extract rfl rfl rfl ?_
                refine TL.assign rfl rfl ?_
                refine TL.assign rfl rfl ?_
                refine TL.done ?_
                refine Thn.go ?_
                refine TC.seq ?_
                refine TC.regionH (fun w4 => Ch [] w150 w4) mixed0 ?_
                have hS : (fun w4 => Ch [] w150 w4) _ := Ch.drew [] _
                refine TH.take (i := 0) rfl rfl rfl rfl rfl (by kernel_rfl) (by kernel_rfl) (by kernel_rfl) hS (fun w2 hw2 => TL.move rfl rfl (TL.done ⟨rfl, rfl⟩)) ?_
                refine TH.take (i := 1) rfl rfl rfl rfl rfl (by kernel_rfl) (by kernel_rfl) (by kernel_rfl) hS (fun w2 hw2 => TL.move rfl rfl (TL.done ⟨rfl, rfl⟩)) ?_
                refine TH.take (i := 2) rfl rfl rfl rfl rfl (by kernel_rfl) (by kernel_rfl) (by kernel_rfl) hS (fun w2 hw2 => TL.move rfl rfl (TL.done ⟨rfl, rfl⟩)) ?_
                refine TH.take (i := 3) rfl rfl rfl rfl rfl (by kernel_rfl) (by kernel_rfl) (by kernel_rfl) hS (fun w2 hw2 => TL.indexAddr (j) sl22 rfl rfl (by first | rfl | omega) (by omega) rfl (TL.done ⟨rfl, rfl⟩)) ?_
                refine TH.take (i := 4) rfl rfl rfl rfl rfl (by kernel_rfl) (by kernel_rfl) (by kernel_rfl) hS (fun w2 hw2 => TL.fieldAddr fd33k1 rfl rfl (TL.done ⟨rfl, rfl⟩)) ?_
                refine TH.take (i := 5) rfl rfl rfl rfl rfl (by kernel_rfl) (by kernel_rfl) (by kernel_rfl) hS (fun w2 hw2 => TL.load pl3 rfl ((show _ = some (Value.int .i64 (Wk.rec L3 j).cas) from hce _ (g150.trans0 hw2) 1 (by decide))) rfl (TL.done ⟨rfl, rfl⟩)) ?_
                refine TH.take (i := 6) rfl rfl rfl rfl rfl (by kernel_rfl) (by kernel_rfl) (by kernel_rfl) hS (fun w2 hw2 => TL.move rfl rfl (TL.done ⟨rfl, rfl⟩)) ?_
                refine TH.take (i := 7) rfl rfl rfl rfl rfl (by kernel_rfl) (by kernel_rfl) (by kernel_rfl) hS (fun w2 hw2 => TL.move rfl rfl (TL.done ⟨rfl, rfl⟩)) ?_
                refine TH.take (i := 8) rfl rfl rfl rfl rfl (by kernel_rfl) (by kernel_rfl) (by kernel_rfl) hS (fun w2 hw2 => TL.indexAddr (j) sl22 rfl rfl (by first | rfl | omega) (by omega) rfl (TL.done ⟨rfl, rfl⟩)) ?_
                refine TH.take (i := 9) rfl rfl rfl rfl rfl (by kernel_rfl) (by kernel_rfl) (by kernel_rfl) hS (fun w2 hw2 => TL.fieldAddr fd33k2 rfl rfl (TL.done ⟨rfl, rfl⟩)) ?_
                refine TH.take (i := 10) rfl rfl rfl rfl rfl (by kernel_rfl) (by kernel_rfl) (by kernel_rfl) hS (fun w2 hw2 => TL.load pl9 rfl ((show _ = some (str (Wk.rec L3 j).stage) from hce _ (g150.trans0 hw2) 2 (by decide))) rfl (TL.done ⟨rfl, rfl⟩)) ?_
                refine TH.one (i := 11) (by kernel_rfl) rfl rfl ?_
                refine TL.call can23 rfl rfl (fn23 _ L3 (Wk.rec L3 j).cas (Wk.rec L3 j).stage _ (Rd.ofOwn (Own.ch0 (hv4.ch0 g150) hS))) (fun v165 w165 hr165 => ?_)
                obtain ⟨r165, rfl, hv165, hc165⟩ := hr165
                rw [t3.good_ hd3]
                obtain ⟨D, hD⟩ : ∃ D, Wk.dropL L3 (Wk.rec L3 j).cas (Wk.rec L3 j).stage = D := ⟨_, rfl⟩
                rw [hD] at hv165 hkeep
                obtain ⟨a165, c165, rfl⟩ := hv165.shape
                have hDm := (Rd.ofOwn hv165).nlt
                have hmm : maxLen = 9223372036854775807 := rfl
                have g165 : Ch [] w150 w165 := Ch.trans0 hS hc165
                have hS : (fun w4 => Ch [] w150 w4) _ := g165
                refine TL.done ⟨hS, ?_⟩
                refine TH.take (i := 12) rfl rfl rfl rfl rfl (by kernel_rfl) (by kernel_rfl) (by kernel_rfl) hS (fun w2 hw2 => TL.move rfl rfl (TL.done ⟨rfl, rfl⟩)) ?_
                refine TH.take (i := 13) rfl rfl rfl rfl rfl (by kernel_rfl) (by kernel_rfl) (by kernel_rfl) hS (fun w2 hw2 => TL.extract rfl rfl rfl (TL.done ⟨rfl, rfl⟩)) ?_
                refine TH.take (i := 14) rfl rfl rfl rfl rfl (by kernel_rfl) (by kernel_rfl) (by kernel_rfl) hS (fun w2 hw2 => TL.extract rfl rfl rfl (TL.done ⟨rfl, rfl⟩)) ?_
                refine TH.take (i := 15) rfl rfl rfl rfl rfl (by kernel_rfl) (by kernel_rfl) (by kernel_rfl) hS (fun w2 hw2 => TL.assign rfl rfl (TL.done ⟨rfl, rfl⟩)) ?_
                refine TH.take (i := 16) rfl rfl rfl rfl rfl (by kernel_rfl) (by kernel_rfl) (by kernel_rfl) hS (fun w2 hw2 => TL.assign rfl rfl (TL.done ⟨rfl, rfl⟩)) ?_
                refine TH.done (by kernel_rfl) ?_
                refine Thn.go ?_
                refine TC.seq ?_
                refine TC.region ?_
                refine TL.assign rfl rfl ?_
                refine TL.done ?_
                refine Thn.go ?_
                refine TC.seq ?_
                refine TC.seq ?_
                refine TC.region ?_
                refine TL.assign rfl rfl ?_
                refine TL.done ?_
                refine Thn.go ?_
                refine TC.block ?_
                refine TC.loop2 (fun (q : Nat) (fd : Bool) => [(2, str u), (16, .slice (some ⟨gb, 0, none⟩) L3.length c72), (22, .int .i64 (j : Int)), (24, .int .i64 (Wk.turnE L3 id v 1 : Int)), (26, .int .i64 ((230 : Nat) : Int)), (28, .int .i64 ((230 : Nat) : Int)), (29, .slice a165 D.length c165), (30, .int .i64 ((0 : Nat) : Int)), (31, .bool fd), (32, .int .i64 (q : Int))]) (fun q fd w5 => q ≤ D.length ∧ (fd = true ↔ ∃ z, z < q ∧ Wk.rec D z = Wk.rec L3 j) ∧ Ch [] w165 w5) (fun q _ => D.length - q) 0 false (by repeat (first | exact trivial | refine ⟨rfl, ?_⟩)) (⟨by omega, by simp, Ch.refl _ _⟩) (fun q fd w5 hH => ?_)
                obtain ⟨hq, hfd, hch5⟩ := hH
                have g5 : Ch [] w' w5 := g150.trans0 (g165.trans0 hch5)
                refine TC.seq ?_
                refine TC.seq ?_
                refine TC.region ?_
                refine TL.move rfl rfl ?_
                refine TL.move rfl rfl ?_
                refine TL.lenSlice Try.underlying22 rfl rfl ?_
                refine TL.lss rfl rfl rfl ?_
                refine TL.done ?_
                refine Thn.go ?_
                refine TC.condP rfl (fun h12 => ?_) (fun h12 => ?_)
                ·
                  have hql : q < D.length := by omega
                  obtain ⟨b1, o1, rfl, _⟩ := recAt (i := q) (Rd.ofOwn (hv165.ch0 hch5)) hql
                  have hcd : ∀ w2, Ch [] w5 w2 → ∀ z, z < 6 → w2.cell? ⟨b1, o1 + q * 6 + z, none⟩ = (cl (Wk.rec D q))[z]? := fun w2 h2 z hz => by obtain ⟨b', o', e, hh⟩ := recAt (i := q) (Rd.ofOwn ((hv165.ch0 hch5).ch0 h2)) hql; cases e; exact hh z hz
                  refine TC.skip ?_
                  refine Thn.go ?_
                  refine TC.seq ?_
                  refine TC.block ?_
                  refine TC.regionQ (fun w6 => Ch [] w5 w6) mixed0 (by kernel_rfl) (Ch.drew [] _) ?_
                  refine TQ.via rfl rfl rfl rfl (fun w2 hw2 => TL.move rfl rfl (TL.done ⟨rfl, rfl⟩)) ?_
                  refine TQ.emB (fun e174 => ?_) (fun e174 => ?_)
                  ·
                    refine TQ.via rfl rfl rfl rfl (fun w2 hw2 => TL.move rfl rfl (TL.done ⟨rfl, rfl⟩)) ?_
                    refine TQ.guardNo (d := 175) rfl rfl rfl rfl rfl ?_
                    refine TQ.guardNo (d := 175) rfl rfl rfl rfl rfl ?_
                    refine TQ.guardNo (d := 175) rfl rfl rfl rfl rfl ?_
                    refine TQ.guardNo (d := 175) rfl rfl rfl rfl rfl ?_
                    refine TQ.guardNo (d := 175) rfl rfl rfl rfl rfl ?_
                    refine TQ.guardNo (d := 175) rfl rfl rfl rfl rfl ?_
                    refine TQ.guardNo (d := 175) rfl rfl rfl rfl rfl ?_
                    refine TQ.guardNo (d := 175) rfl rfl rfl rfl rfl ?_
                    refine TQ.guardNo (d := 175) rfl rfl rfl rfl rfl ?_
                    refine TQ.via rfl rfl rfl rfl (fun w2 hw2 => TL.pickT rfl rfl rfl rfl (TL.done ⟨rfl, rfl⟩)) ?_
                    refine TQ.via rfl rfl rfl rfl (fun w2 hw2 => TL.assign rfl rfl (TL.done ⟨rfl, rfl⟩)) ?_
                    refine TQ.done (fun w2 hw2 => ?_)
                    refine Blk.go ?_
                    refine Thn.go ?_
                    refine TC.region ?_
                    refine TL.move rfl rfl ?_
                    refine TL.add_i64 rfl rfl (by omega) (by omega) rfl ?_
                    refine TL.assign rfl rfl ?_
                    refine TL.done ?_
                    refine Lp.go ((q + 1, true)) (by repeat (first | exact trivial | refine ⟨rfl, ?_⟩)) ?_ (by first | omega | (dsimp only; omega))
                    exact ⟨by show q + 1 ≤ D.length; omega, ⟨fun _ => by obtain ⟨z, k1, k2⟩ := hfd.1 (by assumption); exact ⟨z, by show z < q + 1; omega, k2⟩, fun _ => rfl⟩, hch5.trans0 hw2⟩
                  ·
                    refine TQ.via rfl rfl rfl rfl (fun w2 hw2 => TL.move rfl rfl (TL.done ⟨rfl, rfl⟩)) ?_
                    refine TQ.guardYes (d := 175) rfl rfl rfl ?_
                    refine TQ.via rfl rfl rfl rfl (fun w2 hw2 => TL.move rfl rfl (TL.done ⟨rfl, rfl⟩)) ?_
                    refine TQ.guardYes (d := 175) rfl rfl rfl ?_
                    refine TQ.via rfl rfl rfl rfl (fun w2 hw2 => TL.move rfl rfl (TL.done ⟨rfl, rfl⟩)) ?_
                    refine TQ.guardYes (d := 175) rfl rfl rfl ?_
                    refine TQ.via rfl rfl rfl rfl (fun w2 hw2 => TL.indexAddr (q) sl22 rfl rfl (by first | rfl | omega) (by omega) rfl (TL.done ⟨rfl, rfl⟩)) ?_
                    refine TQ.guardYes (d := 175) rfl rfl rfl ?_
                    refine TQ.via rfl rfl rfl rfl (fun w2 hw2 => TL.loadAgg (cl (Wk.rec D q)) ag33 rfl rfl (fun z hz => hcd _ hw2 z hz) rfl (TL.done ⟨rfl, rfl⟩)) ?_
                    refine TQ.guardYes (d := 175) rfl rfl rfl ?_
                    refine TQ.via rfl rfl rfl rfl (fun w2 hw2 => TL.move rfl rfl (TL.done ⟨rfl, rfl⟩)) ?_
                    refine TQ.guardYes (d := 175) rfl rfl rfl ?_
                    refine TQ.via rfl rfl rfl rfl (fun w2 hw2 => TL.move rfl rfl (TL.done ⟨rfl, rfl⟩)) ?_
                    refine TQ.guardYes (d := 175) rfl rfl rfl ?_
                    refine TQ.via rfl rfl rfl rfl (fun w2 hw2 => TL.indexAddr (j) sl22 rfl rfl (by first | rfl | omega) (by omega) rfl (TL.done ⟨rfl, rfl⟩)) ?_
                    refine TQ.guardYes (d := 175) rfl rfl rfl ?_
                    refine TQ.via rfl rfl rfl rfl (fun w2 hw2 => TL.loadAgg (cl (Wk.rec L3 j)) ag33 rfl rfl (fun z hz => hce _ (g5.trans0 hw2) z hz) rfl (TL.done ⟨rfl, rfl⟩)) ?_
                    refine TQ.guardYes (d := 175) rfl rfl rfl ?_
                    refine TQ.via rfl rfl rfl rfl (fun w2 hw2 => TL.eqlAgg gd33 (eqWork _ _ _) rfl rfl rfl (TL.done ⟨rfl, rfl⟩)) ?_
                    refine TQ.via rfl rfl rfl rfl (fun w2 hw2 => TL.pickF rfl rfl rfl rfl (TL.done ⟨rfl, rfl⟩)) ?_
                    refine TQ.via rfl rfl rfl rfl (fun w2 hw2 => TL.assign rfl rfl (TL.done ⟨rfl, rfl⟩)) ?_
                    refine TQ.done (fun w2 hw2 => ?_)
                    refine Blk.go ?_
                    refine Thn.go ?_
                    refine TC.region ?_
                    refine TL.move rfl rfl ?_
                    refine TL.add_i64 rfl rfl (by omega) (by omega) rfl ?_
                    refine TL.assign rfl rfl ?_
                    refine TL.done ?_
                    refine Lp.go ((q + 1, decide (Wk.rec D q = Wk.rec L3 j))) (by repeat (first | exact trivial | refine ⟨rfl, ?_⟩)) ?_ (by first | omega | (dsimp only; omega))
                    refine ⟨by show q + 1 ≤ D.length; omega, ⟨fun h => ⟨q, by show q < q + 1; omega, of_decide_eq_true h⟩, fun ⟨z, k1, k2⟩ => decide_eq_true ?_⟩, hch5.trans0 hw2⟩
                    rcases Nat.lt_or_ge z q with h | h
                    · have k3 := hfd.2 ⟨z, h, k2⟩
                      have k4 : fd = false := by assumption
                      rw [k4] at k3; cases k3
                    · have k5 : z < q + 1 := k1
                      rw [show q = z by omega]; exact k2
                ·
                  have hqe : q = D.length := by omega
                  have hft : fd = true := hfd.2 (by obtain ⟨z, hz, e⟩ := List.getElem_of_mem hkeep; exact ⟨z, by omega, by rw [← Wk.rec_eq hz]; exact e⟩)
                  subst hft
                  refine TC.exit ?_
                  refine Thn.exit ?_
                  refine Lp.exit ?_
                  refine Blk.hit ?_
                  refine Thn.go ?_
                  refine TC.cut0 ([(8, .bool true)]) (fun w6 => w5 = w6) (fun K13 hK13 => ?_) (fun w6 hZ => ?_)
                  ·
                    refine TC.region ?_
                    refine TL.move rfl rfl ?_
                    refine TL.neq rfl rfl rfl ?_
                    refine TL.yes (by omega) ?_
                    refine TL.move rfl rfl ?_
                    refine TL.guardYes (d := 188) rfl rfl rfl ?_
                    refine TL.move rfl rfl ?_
                    refine TL.guardYes (d := 188) rfl rfl rfl ?_
                    refine TL.eql rfl rfl rfl ?_
                    refine TL.yes (rfl) ?_
                    refine TL.pickT rfl rfl rfl rfl ?_
                    refine TL.move rfl rfl ?_
                    refine TL.guardYes (d := 192) rfl rfl rfl ?_
                    refine TL.move rfl rfl ?_
                    refine TL.guardYes (d := 192) rfl rfl rfl ?_
                    refine TL.eql rfl rfl rfl ?_
                    refine TL.yes (rfl) ?_
                    refine TL.pickT rfl rfl rfl rfl ?_
                    refine TL.move rfl rfl ?_
                    refine TL.guardYes (d := 196) rfl rfl rfl ?_
                    refine TL.move rfl rfl ?_
                    refine TL.guardYes (d := 196) rfl rfl rfl ?_
                    refine TL.eql rfl rfl rfl ?_
                    refine TL.yes (rfl) ?_
                    refine TL.pickT rfl rfl rfl rfl ?_
                    refine TL.move rfl rfl ?_
                    refine TL.guardYes (d := 200) rfl rfl rfl ?_
                    refine TL.move rfl rfl ?_
                    refine TL.emB (fun e201 => ?_) (fun e201 => ?_)
                    ·
                      refine TL.pickT rfl rfl rfl rfl ?_
                      refine TL.move rfl rfl ?_
                      refine TL.guardYes (d := 203) rfl rfl rfl ?_
                      refine TL.move rfl rfl ?_
                      refine TL.guardYes (d := 203) rfl rfl rfl ?_
                      refine TL.move rfl rfl ?_
                      refine TL.guardYes (d := 203) rfl rfl rfl ?_
                      refine TL.indexAddr (j) sl22 rfl rfl (by first | rfl | omega) (by omega) rfl ?_
                      refine TL.guardYes (d := 203) rfl rfl rfl ?_
                      refine TL.fieldAddr fd33k4 rfl rfl ?_
                      refine TL.guardYes (d := 203) rfl rfl rfl ?_
                      refine TL.load pl5 rfl ((show _ = some (u8 3) from by rw [hce _ g5 4 (by decide), hY]; rfl)) rfl ?_
                      refine TL.guardYes (d := 203) rfl rfl rfl ?_
                      refine TL.eql rfl rfl rfl ?_
                      refine TL.yes (rfl) ?_
                      refine TL.pickT rfl rfl rfl rfl ?_
                      refine TL.move rfl rfl ?_
                      refine TL.guardYes (d := 211) rfl rfl rfl ?_
                      refine TL.move rfl rfl ?_
                      refine TL.guardYes (d := 211) rfl rfl rfl ?_
                      refine TL.move rfl rfl ?_
                      refine TL.guardYes (d := 211) rfl rfl rfl ?_
                      refine TL.indexAddr (j) sl22 rfl rfl (by first | rfl | omega) (by omega) rfl ?_
                      refine TL.guardYes (d := 211) rfl rfl rfl ?_
                      refine TL.fieldAddr fd33k5 rfl rfl ?_
                      refine TL.guardYes (d := 211) rfl rfl rfl ?_
                      refine TL.load pl9 rfl ((show _ = some (str u) from by rw [hce _ g5 5 (by decide), hY]; rfl)) rfl ?_
                      refine TL.guardYes (d := 211) rfl rfl rfl ?_
                      refine TL.move rfl rfl ?_
                      refine TL.guardYes (d := 211) rfl rfl rfl ?_
                      refine TL.eqlStr rfl rfl rfl ?_
                      refine TL.yes (rfl) ?_
                      refine TL.pickT rfl rfl rfl rfl ?_
                      refine TL.assign rfl rfl ?_
                      refine TL.done ?_
                      exact hK13  _ _ (by repeat (first | exact trivial | refine ⟨rfl, ?_⟩ | refine ⟨congrArg (fun b => some (Value.bool b)) (by first | exact (decide_eq_true (by grind)).symm | exact (decide_eq_false (by grind)).symm | exact decide_eq_decide.2 (by grind) | exact decide_eq_true (by grind) | exact decide_eq_false (by grind) | (exfalso; grind)), ?_⟩)) (rfl)
                    ·
                      refine TL.pickT rfl rfl rfl rfl ?_
                      refine TL.move rfl rfl ?_
                      refine TL.guardNo (d := 203) rfl rfl rfl rfl rfl ?_
                      refine TL.guardNo (d := 203) rfl rfl rfl rfl rfl ?_
                      refine TL.guardNo (d := 203) rfl rfl rfl rfl rfl ?_
                      refine TL.guardNo (d := 203) rfl rfl rfl rfl rfl ?_
                      refine TL.guardNo (d := 203) rfl rfl rfl rfl rfl ?_
                      refine TL.guardNo (d := 203) rfl rfl rfl rfl rfl ?_
                      refine TL.pickF rfl rfl rfl rfl ?_
                      refine TL.move rfl rfl ?_
                      refine TL.guardNo (d := 211) rfl rfl rfl rfl rfl ?_
                      refine TL.guardNo (d := 211) rfl rfl rfl rfl rfl ?_
                      refine TL.guardNo (d := 211) rfl rfl rfl rfl rfl ?_
                      refine TL.guardNo (d := 211) rfl rfl rfl rfl rfl ?_
                      refine TL.guardNo (d := 211) rfl rfl rfl rfl rfl ?_
                      refine TL.guardNo (d := 211) rfl rfl rfl rfl rfl ?_
                      refine TL.guardNo (d := 211) rfl rfl rfl rfl rfl ?_
                      refine TL.pickF rfl rfl rfl rfl ?_
                      refine TL.assign rfl rfl ?_
                      refine TL.done ?_
                      exact hK13  _ _ (by repeat (first | exact trivial | refine ⟨rfl, ?_⟩ | refine ⟨congrArg (fun b => some (Value.bool b)) (by first | exact (decide_eq_true (by grind)).symm | exact (decide_eq_false (by grind)).symm | exact decide_eq_decide.2 (by grind) | exact decide_eq_true (by grind) | exact decide_eq_false (by grind) | (exfalso; grind)), ?_⟩)) (rfl)
                  ·
                    refine TC.ret ?_
                    refine Blk.ret ?_
                    refine Thn.ret ?_
                    refine Lp.ret ?_
                    refine Blk.ret ?_
                    refine Thn.ret ?_
                    refine Ends.ret [8] rfl rfl ?_
                    exact ⟨rfl, by subst hZ; exact (qm.trans0 hch).trans0 g5⟩
            ·
              refine TC.exit ?_
              refine Thn.exit ?_
              refine Lp.exit ?_
              refine Blk.hit ?_
              refine Thn.go ?_
              refine TC.seq ?_
              refine TC.region ?_
              refine TL.assign rfl rfl ?_
              refine TL.done ?_
              refine Thn.go ?_
              refine TC.ret ?_
              refine Ends.ret [8] rfl rfl ?_
              exact absurd t3.id1 (hg i (by have := t3.lt; omega))

