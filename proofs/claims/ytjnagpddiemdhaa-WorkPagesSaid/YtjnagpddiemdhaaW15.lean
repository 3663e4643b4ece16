/-
  Walks through the given program: each theorem fnN says what the call of function N of the translation hands back, for all arguments that its premises describe, and that nothing that was there has turned.
-/
import Derived.Test.YtjnagpddiemdhaaW13
import Derived.Test.YtjnagpddiemdhaaWk5
namespace Go.Proofs.Ytjnagpddiemdhaa
open Go.Lane
theorem can14 : Callable Try.prog 14 := ⟨Try.f14, Try.func14, by kernel_rfl, rfl⟩

theorem fn4 (a : Value) (l : List Wk.Work) (u : List UInt8) (rv : Value) (m : List (List UInt8)) (k : Int) (w : World) (ha : Rd w a 6 l.length (l.flatMap cl)) (hr : Rd w rv 1 m.length (m.map str)) : Rets Try.prog 4 #[a, str u, rv, .int .i64 k] w (fun r w' => r = .bool true ∧ Ch [] w w') := by
  obtain ⟨ad, c, rfl, _⟩ := ha.shape
  obtain ⟨rd, rc, rfl, _⟩ := hr.shape
  have hmx : l.length ≤ 9223372036854775807 := ha.nlt
  have hmm : maxLen = 9223372036854775807 := rfl
  refine Rets.of (n := 156) (vs := [_, _, _, _]) Try.func4 rfl rfl rfl ?_
  refine TC.seq ?_
  refine TC.region ?_
  refine TL.assign rfl rfl ?_
  refine TL.done ?_
  refine Thn.go ?_
  refine TC.seq ?_
  refine TC.region ?_
  refine TL.call can13 rfl rfl (fn13 w) (fun v19 w19 hr19 => ?_)
  obtain ⟨rfl, hc19⟩ := hr19
  refine TL.assign rfl rfl ?_
  refine TL.done ?_
  refine Thn.go ?_
  refine TC.seq ?_
  refine TC.cut0 ([(0, .slice ad l.length c), (1, str u), (2, .slice rd m.length rc), (3, .int .i64 k), (9, .bool true), (35, .bool (decide (600 < l.length ∨ 1100 < m.length ∨ k < 1)))]) (fun w2 => w19 = w2) (fun K1 hK1 => ?_) (fun w2 hH => ?_)
  ·
    refine TC.region ?_
    refine TL.move rfl rfl ?_
    refine TL.lenSlice Try.underlying22 rfl rfl ?_
    refine TL.gtr rfl rfl rfl ?_
    refine TL.em (fun e22 => ?_) (fun e22 => ?_)
    ·
      refine TL.move rfl rfl ?_
      refine TL.guardNo (d := 23) rfl rfl rfl rfl rfl ?_
      refine TL.guardNo (d := 23) rfl rfl rfl rfl rfl ?_
      refine TL.guardNo (d := 23) rfl rfl rfl rfl rfl ?_
      refine TL.pickT rfl rfl rfl rfl ?_
      refine TL.move rfl rfl ?_
      refine TL.guardNo (d := 28) rfl rfl rfl rfl rfl ?_
      refine TL.guardNo (d := 28) rfl rfl rfl rfl rfl ?_
      refine TL.pickT rfl rfl rfl rfl ?_
      refine TL.move rfl rfl ?_
      refine TL.guardNo (d := 32) rfl rfl rfl rfl rfl ?_
      refine TL.guardNo (d := 32) rfl rfl rfl rfl rfl ?_
      refine TL.pickT rfl rfl rfl rfl ?_
      refine TL.done ?_
      exact hK1  _ _ (by repeat (first | exact trivial | refine ⟨rfl, ?_⟩ | refine ⟨congrArg (fun b => some (Value.bool b)) (by first | exact (decide_eq_true (by grind)).symm | exact (decide_eq_false (by grind)).symm | exact decide_eq_decide.2 (by grind) | exact decide_eq_true (by grind) | exact decide_eq_false (by grind) | (exfalso; grind)), ?_⟩)) (by first | rfl | exact hc154)
    ·
      refine TL.move rfl rfl ?_
      refine TL.guardYes (d := 23) rfl rfl rfl ?_
      refine TL.move rfl rfl ?_
      refine TL.guardYes (d := 23) rfl rfl rfl ?_
      refine TL.lenSlice Try.underlying23 rfl rfl ?_
      refine TL.guardYes (d := 23) rfl rfl rfl ?_
      refine TL.gtr rfl rfl rfl ?_
      refine TL.em (fun e26 => ?_) (fun e26 => ?_)
      ·
        refine TL.pickF rfl rfl rfl rfl ?_
        refine TL.move rfl rfl ?_
        refine TL.guardNo (d := 28) rfl rfl rfl rfl rfl ?_
        refine TL.guardNo (d := 28) rfl rfl rfl rfl rfl ?_
        refine TL.pickT rfl rfl rfl rfl ?_
        refine TL.move rfl rfl ?_
        refine TL.guardNo (d := 32) rfl rfl rfl rfl rfl ?_
        refine TL.guardNo (d := 32) rfl rfl rfl rfl rfl ?_
        refine TL.pickT rfl rfl rfl rfl ?_
        refine TL.done ?_
        exact hK1  _ _ (by repeat (first | exact trivial | refine ⟨rfl, ?_⟩ | refine ⟨congrArg (fun b => some (Value.bool b)) (by first | exact (decide_eq_true (by grind)).symm | exact (decide_eq_false (by grind)).symm | exact decide_eq_decide.2 (by grind) | exact decide_eq_true (by grind) | exact decide_eq_false (by grind) | (exfalso; grind)), ?_⟩)) (by first | rfl | exact hc154)
      ·
        refine TL.pickF rfl rfl rfl rfl ?_
        refine TL.move rfl rfl ?_
        refine TL.guardYes (d := 28) rfl rfl rfl ?_
        refine TL.move rfl rfl ?_
        refine TL.guardYes (d := 28) rfl rfl rfl ?_
        refine TL.lss rfl rfl rfl ?_
        refine TL.em (fun e30 => ?_) (fun e30 => ?_)
        ·
          refine TL.pickF rfl rfl rfl rfl ?_
          refine TL.move rfl rfl ?_
          refine TL.guardNo (d := 32) rfl rfl rfl rfl rfl ?_
          refine TL.guardNo (d := 32) rfl rfl rfl rfl rfl ?_
          refine TL.pickT rfl rfl rfl rfl ?_
          refine TL.done ?_
          exact hK1  _ _ (by repeat (first | exact trivial | refine ⟨rfl, ?_⟩ | refine ⟨congrArg (fun b => some (Value.bool b)) (by first | exact (decide_eq_true (by grind)).symm | exact (decide_eq_false (by grind)).symm | exact decide_eq_decide.2 (by grind) | exact decide_eq_true (by grind) | exact decide_eq_false (by grind) | (exfalso; grind)), ?_⟩)) (by first | rfl | exact hc154)
        ·
          refine TL.pickF rfl rfl rfl rfl ?_
          refine TL.move rfl rfl ?_
          refine TL.guardYes (d := 32) rfl rfl rfl ?_
          refine TL.move rfl rfl ?_
          refine TL.guardYes (d := 32) rfl rfl rfl ?_
          refine TL.not rfl rfl ?_
          refine TL.pickF rfl rfl rfl rfl ?_
          refine TL.done ?_
          exact hK1  _ _ (by repeat (first | exact trivial | refine ⟨rfl, ?_⟩ | refine ⟨congrArg (fun b => some (Value.bool b)) (by first | exact (decide_eq_true (by grind)).symm | exact (decide_eq_false (by grind)).symm | exact decide_eq_decide.2 (by grind) | exact decide_eq_true (by grind) | exact decide_eq_false (by grind) | (exfalso; grind)), ?_⟩)) (by first | rfl | exact hc154)
  ·
    subst hH
    refine TC.condP rfl (fun h5 => ?_) (fun h5 => ?_)
    ·
      refine TC.seq ?_
      refine TC.region ?_
      refine TL.move rfl rfl ?_
      refine TL.assign rfl rfl ?_
      refine TL.done ?_
      refine Thn.go ?_
      refine TC.ret ?_
      refine Thn.ret ?_
      refine Ends.ret [8] rfl rfl ?_
      exact ⟨rfl, hc19⟩
    ·
      have hno : ¬ (600 < l.length ∨ 1100 < m.length ∨ k < 1) := by assumption
      refine TC.skip ?_
      refine Thn.go ?_
      refine TC.seq ?_
      refine TC.region ?_
      refine TL.move rfl rfl ?_
      refine TL.move rfl rfl ?_
      refine TL.move rfl rfl ?_
      refine TL.call can9 rfl rfl (fn9 _ l u _ m 0 600 w19 (ha.ch0 hc19) (hr.ch0 hc19)) (fun v41 w41 hr41 => ?_)
      obtain ⟨r41, rfl, hv41, hc41⟩ := hr41
      have q41 := hc19.trans0 hc41
      obtain ⟨a41, c41, rfl⟩ := hv41.shape
      refine TL.move rfl rfl ?_
      refine TL.extract rfl rfl rfl ?_
      refine TL.extract rfl rfl rfl ?_
      refine TL.assign rfl rfl ?_
      refine TL.assign rfl rfl ?_
      refine TL.done ?_
      refine Thn.go ?_
      refine TC.seq ?_
      refine TC.seq ?_
      refine TC.region ?_
      refine TL.move rfl rfl ?_
      refine TL.neq rfl rfl rfl ?_
      refine TL.done ?_
      refine Thn.go ?_
      refine TC.condP rfl (fun h6 => ?_) (fun h6 => ?_)
      ·
        have e1 : Wk.forL l u m 0 600 = [] := Wk.for_bad (by omega)
        refine TC.seq ?_
        refine TC.region ?_
        refine TL.move rfl rfl ?_
        refine TL.lenSlice Try.underlying22 rfl rfl ?_
        refine TL.eql rfl rfl rfl ?_
        refine TL.assign rfl rfl ?_
        refine TL.done ?_
        refine Thn.go ?_
        refine TC.ret ?_
        refine Thn.ret ?_
        refine Ends.ret [8] rfl rfl ?_
        exact ⟨by rw [e1]; rfl, q41⟩
      ·
        obtain ⟨h0, hn, hmr, _⟩ := Wk.for_zero (l := l) (u := u) (r := m) (f := 0) (c := 600) (by omega)
        have hsl := Wk.seen_len l u m
        have e2 := (Wk.for_ok (l := l) (u := u) (r := m) (f := 0) (c := 600) h0 hn hmr (by omega)).2
        obtain ⟨S, hS⟩ : ∃ S, Wk.seen l u m = S := ⟨_, rfl⟩
        rw [hS] at e2 hsl
        have e3 : Wk.forL l u m 0 600 = S := by rw [e2]; exact List.take_of_length_le (by rw [List.length_drop]; show S.length - 0 ≤ 600; omega)
        rw [e3] at hv41
        rw [e3]
        refine TC.skip ?_
        refine Thn.go ?_
        refine TC.seq ?_
        refine TC.region ?_
        refine TL.assign rfl rfl ?_
        refine TL.done ?_
        refine Thn.go ?_
        refine TC.seq ?_
        refine TC.block ?_
        refine TC.loop2 (fun (n : Nat) (v : Value) => [(0, .slice ad l.length c), (1, str u), (2, .slice rd m.length rc), (3, .int .i64 k), (10, .slice a41 S.length c41), (12, v)]) (fun n v w' => n ≤ S.length ∧ Own w' w41.heap.size 33 6 v n ((S.take n).flatMap cl) ∧ Ch [] w41 w') (fun n _ => S.length - n) 0 (.slice none 0 0) (by repeat (first | exact trivial | refine ⟨rfl, ?_⟩)) (⟨by omega, World.ownsRow_nil _ _ _ _, Ch.refl _ _⟩) (fun n v w' hH => ?_)
        obtain ⟨hnl, hown, hch⟩ := hH
        obtain ⟨av, cv, rfl⟩ := hown.shape
        have z1 := hch.size
        refine TC.seq ?_
        refine TC.seq ?_
        refine TC.region ?_
        refine TL.move rfl rfl ?_
        refine TL.lenSlice Try.underlying22 rfl rfl ?_
        refine TL.move rfl rfl ?_
        refine TL.lenSlice Try.underlying22 rfl rfl ?_
        refine TL.lss rfl rfl rfl ?_
        refine TL.done ?_
        refine Thn.go ?_
        refine TC.condP rfl (fun h7 => ?_) (fun h7 => ?_)
        ·
          have hns : n < S.length := by omega
          obtain ⟨f1, f2⟩ := Wk.for_ok (l := l) (u := u) (r := m) (f := (n : Int)) (c := k) h0 hn hmr (by omega)
          rw [hS, Int.toNat_natCast] at f2
          refine TC.skip ?_
          refine Thn.go ?_
          refine TC.block ?_
          refine TC.seq ?_
          refine TC.region ?_
          refine TL.move rfl rfl ?_
          refine TL.move rfl rfl ?_
          refine TL.move rfl rfl ?_
          refine TL.move rfl rfl ?_
          refine TL.lenSlice Try.underlying22 rfl rfl ?_
          refine TL.move rfl rfl ?_
          refine TL.call can9 rfl rfl (fn9 _ l u _ m (n : Int) k w' ((ha.ch0 q41).ch0 hch) ((hr.ch0 q41).ch0 hch)) (fun v61 w61 hr61 => ?_)
          obtain ⟨r61, rfl, hv61, hc61⟩ := hr61
          rw [f1]
          rw [f2] at hv61
          obtain ⟨P, hP⟩ : ∃ P, (S.drop n).take k.toNat = P := ⟨_, rfl⟩
          have hpl : P.length = min k.toNat (S.length - n) := by rw [← hP, List.length_take, List.length_drop]
          rw [hP] at hv61
          obtain ⟨a61, c61, rfl⟩ := hv61.shape
          have z2 := hc61.size
          refine TL.move rfl rfl ?_
          refine TL.extract rfl rfl rfl ?_
          refine TL.extract rfl rfl rfl ?_
          refine TL.assign rfl rfl ?_
          refine TL.assign rfl rfl ?_
          refine TL.done ?_
          refine Thn.go ?_
          refine TC.seq ?_
          refine TC.seq ?_
          refine TC.region ?_
          refine TL.move rfl rfl ?_
          refine TL.neq rfl rfl rfl ?_
          refine TL.no (by simp) ?_
          refine TL.move rfl rfl ?_
          refine TL.guardYes (d := 66) rfl rfl rfl ?_
          refine TL.move rfl rfl ?_
          refine TL.guardYes (d := 66) rfl rfl rfl ?_
          refine TL.lenSlice Try.underlying22 rfl rfl ?_
          refine TL.guardYes (d := 66) rfl rfl rfl ?_
          refine TL.eql rfl rfl rfl ?_
          refine TL.no (by omega) ?_
          refine TL.pickF rfl rfl rfl rfl ?_
          refine TL.move rfl rfl ?_
          refine TL.guardYes (d := 71) rfl rfl rfl ?_
          refine TL.move rfl rfl ?_
          refine TL.guardYes (d := 71) rfl rfl rfl ?_
          refine TL.lenSlice Try.underlying22 rfl rfl ?_
          refine TL.guardYes (d := 71) rfl rfl rfl ?_
          refine TL.move rfl rfl ?_
          refine TL.guardYes (d := 71) rfl rfl rfl ?_
          refine TL.gtr rfl rfl rfl ?_
          refine TL.no (by omega) ?_
          refine TL.pickF rfl rfl rfl rfl ?_
          refine TL.done ?_
          refine Thn.go ?_
          refine TC.condF rfl rfl ?_
          refine TC.skip ?_
          refine Thn.go ?_
          refine TC.region ?_
          refine TL.move rfl rfl ?_
          refine TL.move rfl rfl ?_
          refine TL.append sl22 rfl rfl rfl (hown.ch0 hc61) (News.ofRd Try.underlying22 (Rd.ofOwn hv61) (rows_one _)) (by omega) (by omega) (by omega) (fun v79 w79 hv79 hc79 _ => ?_)
          refine TL.assign rfl rfl ?_
          refine TL.done ?_
          refine Blk.go ?_
          refine Lp.go ((n + P.length, v79)) (by repeat (first | exact trivial | refine ⟨rfl, ?_⟩)) ?_ (by first | omega | (dsimp only; omega))
          refine ⟨by show n + P.length ≤ S.length; omega, ?_, (hown.ch0 hc61).thenCh (hch.trans0 hc61) hc79⟩
          show Own w79 _ 33 6 v79 (n + P.length) ((S.take (n + P.length)).flatMap cl)
          rw [← hP, Wk.page_step, List.flatMap_append, hP]; exact hv79
        ·
          have hnl2 : n = S.length := by omega
          subst hnl2
          rw [List.take_length] at hown
          have hvS := hv41.ch0 hch
          refine TC.exit ?_
          refine Thn.exit ?_
          refine Lp.exit ?_
          refine Blk.hit ?_
          refine Thn.go ?_
          refine TC.seq ?_
          refine TC.region ?_
          refine TL.assign rfl rfl ?_
          refine TL.done ?_
          refine Thn.go ?_
          refine TC.seq ?_
          refine TC.seq ?_
          refine TC.region ?_
          refine TL.assign rfl rfl ?_
          refine TL.done ?_
          refine Thn.go ?_
          refine TC.block ?_
          refine TC.loop2 (fun (i n2 : Nat) => [(0, .slice ad l.length c), (1, str u), (2, .slice rd m.length rc), (10, .slice a41 S.length c41), (12, .slice av S.length cv), (15, .int .i64 (n2 : Int)), (16, .int .i64 (i : Int))]) (fun i n2 w4 => i ≤ l.length ∧ n2 = (Wk.seen (l.take i) u m).length ∧ Ch [] w' w4) (fun i _ => l.length - i) 0 0 (by repeat (first | exact trivial | refine ⟨rfl, ?_⟩)) (⟨by omega, by simp [Wk.seen], Ch.refl _ _⟩) (fun i n2 w4 hH => ?_)
          obtain ⟨hi, hn2, hch4⟩ := hH
          have hsl4 := Wk.seen_len (l.take i) u m
          rw [List.length_take, ← hn2] at hsl4
          refine TC.seq ?_
          refine TC.seq ?_
          refine TC.region ?_
          refine TL.move rfl rfl ?_
          refine TL.move rfl rfl ?_
          refine TL.lenSlice Try.underlying22 rfl rfl ?_
          refine TL.lss rfl rfl rfl ?_
          refine TL.done ?_
          refine Thn.go ?_
          refine TC.condP rfl (fun h9 => ?_) (fun h9 => ?_)
          ·
            have hil : i < l.length := by omega
            obtain ⟨b1, o1, rfl, _⟩ := recAt (i := i) (((ha.ch0 q41).ch0 hch).ch0 hch4) hil
            have hce : ∀ w2, Ch [] w4 w2 → ∀ q, q < 6 → w2.cell? ⟨b1, o1 + i * 6 + q, none⟩ = (cl (Wk.rec l i))[q]? := fun w2 h2 q hq => by obtain ⟨b', o', e, hh⟩ := recAt (i := i) ((((ha.ch0 q41).ch0 hch).ch0 hch4).ch0 h2) hil; cases e; exact hh q hq
            obtain ⟨x, hx⟩ : ∃ x, Wk.rec l i = x := ⟨_, rfl⟩
            rw [hx] at hce
            refine TC.skip ?_
            refine Thn.go ?_
            refine TC.seq ?_
            refine TC.block ?_
            refine TC.cut0 ([(0, .slice (some ⟨b1, o1, none⟩) l.length c), (1, str u), (2, .slice rd m.length rc), (10, .slice a41 S.length c41), (12, .slice av S.length cv), (15, .int .i64 (n2 : Int)), (16, .int .i64 (i : Int)), (17, .bool (decide (x.state.toNat = 2 ∧ x.owner = u)))]) (fun w5 => w4 = w5) (fun K10 hK10 => ?_) (fun w5 hH => ?_)
            ·
              refine TC.region ?_
              refine TL.move rfl rfl ?_
              refine TL.move rfl rfl ?_
              refine TL.indexAddr (i) sl22 rfl rfl (by first | rfl | omega) (by omega) rfl ?_
              refine TL.fieldAddr fd33k4 rfl rfl ?_
              refine TL.load pl5 rfl ((show _ = some (u8 x.state) from hce _ (Ch.refl _ _) 4 (by decide))) rfl ?_
              refine TL.eql rfl rfl rfl ?_
              refine TL.em (fun e91 => ?_) (fun e91 => ?_)
              ·
                refine TL.move rfl rfl ?_
                refine TL.guardYes (d := 92) rfl rfl rfl ?_
                refine TL.move rfl rfl ?_
                refine TL.guardYes (d := 92) rfl rfl rfl ?_
                refine TL.move rfl rfl ?_
                refine TL.guardYes (d := 92) rfl rfl rfl ?_
                refine TL.indexAddr (i) sl22 rfl rfl (by first | rfl | omega) (by omega) rfl ?_
                refine TL.guardYes (d := 92) rfl rfl rfl ?_
                refine TL.fieldAddr fd33k5 rfl rfl ?_
                refine TL.guardYes (d := 92) rfl rfl rfl ?_
                refine TL.load pl9 rfl ((show _ = some (str x.owner) from hce _ (Ch.refl _ _) 5 (by decide))) rfl ?_
                refine TL.guardYes (d := 92) rfl rfl rfl ?_
                refine TL.move rfl rfl ?_
                refine TL.guardYes (d := 92) rfl rfl rfl ?_
                refine TL.eqlStr rfl rfl rfl ?_
                refine TL.pickT rfl rfl rfl rfl ?_
                refine TL.assign rfl rfl ?_
                refine TL.done ?_
                exact hK10  _ _ (by repeat (first | exact trivial | refine ⟨rfl, ?_⟩ | refine ⟨congrArg (fun b => some (Value.bool b)) (by first | exact (decide_eq_true (by grind)).symm | exact (decide_eq_false (by grind)).symm | exact decide_eq_decide.2 (by grind) | exact decide_eq_true (by grind) | exact decide_eq_false (by grind) | (exfalso; grind)), ?_⟩)) (by first | rfl | exact hc154)
              ·
                refine TL.move rfl rfl ?_
                refine TL.guardNo (d := 92) rfl rfl rfl rfl rfl ?_
                refine TL.guardNo (d := 92) rfl rfl rfl rfl rfl ?_
                refine TL.guardNo (d := 92) rfl rfl rfl rfl rfl ?_
                refine TL.guardNo (d := 92) rfl rfl rfl rfl rfl ?_
                refine TL.guardNo (d := 92) rfl rfl rfl rfl rfl ?_
                refine TL.guardNo (d := 92) rfl rfl rfl rfl rfl ?_
                refine TL.guardNo (d := 92) rfl rfl rfl rfl rfl ?_
                refine TL.pickF rfl rfl rfl rfl ?_
                refine TL.assign rfl rfl ?_
                refine TL.done ?_
                exact hK10  _ _ (by repeat (first | exact trivial | refine ⟨rfl, ?_⟩ | refine ⟨congrArg (fun b => some (Value.bool b)) (by first | exact (decide_eq_true (by grind)).symm | exact (decide_eq_false (by grind)).symm | exact decide_eq_decide.2 (by grind) | exact decide_eq_true (by grind) | exact decide_eq_false (by grind) | (exfalso; grind)), ?_⟩)) (by first | rfl | exact hc154)
            ·
              subst hH
              refine TC.seq ?_
              refine TC.seq ?_
              refine TC.region ?_
              refine TL.assign rfl rfl ?_
              refine TL.done ?_
              refine Thn.go ?_
              refine TC.block ?_
              refine TC.loop2 (fun (q : Nat) (fd : Bool) => [(0, .slice (some ⟨b1, o1, none⟩) l.length c), (1, str u), (2, .slice rd m.length rc), (10, .slice a41 S.length c41), (12, .slice av S.length cv), (15, .int .i64 (n2 : Int)), (16, .int .i64 (i : Int)), (17, .bool fd), (18, .int .i64 (q : Int))]) (fun q fd w6 => q ≤ m.length ∧ (fd = true ↔ (x.state.toNat = 2 ∧ x.owner = u) ∨ (x.state.toNat = 1 ∧ ∃ z, ∃ h : z < m.length, z < q ∧ m[z] = x.role)) ∧ Ch [] w4 w6) (fun q _ => m.length - q) 0 (decide (x.state.toNat = 2 ∧ x.owner = u)) (by repeat (first | exact trivial | refine ⟨rfl, ?_⟩)) (⟨by omega, by simp, Ch.refl _ _⟩) (fun q fd w6 hH => ?_)
              obtain ⟨hq, hfd, hch6⟩ := hH
              refine TC.seq ?_
              refine TC.seq ?_
              refine TC.region ?_
              refine TL.move rfl rfl ?_
              refine TL.move rfl rfl ?_
              refine TL.lenSlice Try.underlying23 rfl rfl ?_
              refine TL.lss rfl rfl rfl ?_
              refine TL.done ?_
              refine Thn.go ?_
              refine TC.condP rfl (fun h12 => ?_) (fun h12 => ?_)
              ·
                have hqm : q < m.length := by omega
                have hrr := (((hr.ch0 q41).ch0 hch).ch0 hch4).ch0 hch6
                obtain ⟨b2, o2, rfl⟩ := hrr.some_ (by omega)
                refine TC.skip ?_
                refine Thn.go ?_
                refine TC.seq ?_
                refine TC.block ?_
                refine TC.regionQ (fun w7 => Ch [] w6 w7) mixed0 (by kernel_rfl) (Ch.drew [] _) ?_
                refine TQ.via rfl rfl rfl rfl (fun w2 hw2 => TL.move rfl rfl (TL.done ⟨rfl, rfl⟩)) ?_
                refine TQ.emB (fun e107 => ?_) (fun e107 => ?_)
                ·
                  refine TQ.via rfl rfl rfl rfl (fun w2 hw2 => TL.move rfl rfl (TL.done ⟨rfl, rfl⟩)) ?_
                  refine TQ.guardNo (d := 108) rfl rfl rfl rfl rfl ?_
                  refine TQ.guardNo (d := 108) rfl rfl rfl rfl rfl ?_
                  refine TQ.guardNo (d := 108) rfl rfl rfl rfl rfl ?_
                  refine TQ.guardNo (d := 108) rfl rfl rfl rfl rfl ?_
                  refine TQ.guardNo (d := 108) rfl rfl rfl rfl rfl ?_
                  refine TQ.guardNo (d := 108) rfl rfl rfl rfl rfl ?_
                  refine TQ.guardNo (d := 108) rfl rfl rfl rfl rfl ?_
                  refine TQ.guardUndef (d := 115) rfl rfl rfl rfl ?_
                  refine TQ.guardUndef (d := 115) rfl rfl rfl rfl ?_
                  refine TQ.guardUndef (d := 115) rfl rfl rfl rfl ?_
                  refine TQ.guardUndef (d := 115) rfl rfl rfl rfl ?_
                  refine TQ.guardUndef (d := 115) rfl rfl rfl rfl ?_
                  refine TQ.guardUndef (d := 115) rfl rfl rfl rfl ?_
                  refine TQ.guardUndef (d := 115) rfl rfl rfl rfl ?_
                  refine TQ.guardUndef (d := 115) rfl rfl rfl rfl ?_
                  refine TQ.guardUndef (d := 115) rfl rfl rfl rfl ?_
                  refine TQ.guardUndef (d := 115) rfl rfl rfl rfl ?_
                  refine TQ.guardNo (d := 108) rfl rfl rfl rfl rfl ?_
                  refine TQ.via rfl rfl rfl rfl (fun w2 hw2 => TL.pickT rfl rfl rfl rfl (TL.done ⟨rfl, rfl⟩)) ?_
                  refine TQ.via rfl rfl rfl rfl (fun w2 hw2 => TL.assign rfl rfl (TL.done ⟨rfl, rfl⟩)) ?_
                  refine TQ.done (fun w2 hw2 => ?_)
                  refine Blk.go ?_
                  refine Thn.go ?_
                  refine TC.region ?_
                  refine TL.move rfl rfl ?_
                  refine TL.add_i64 rfl rfl (by omega) (by omega) rfl ?_
                  refine TL.assign rfl rfl ?_
                  refine TL.done ?_
                  refine Lp.go ((q + 1, true)) (by repeat (first | exact trivial | refine ⟨rfl, ?_⟩)) ?_ (by first | omega | (dsimp only; omega))
                  refine ⟨by show q + 1 ≤ m.length; omega, ⟨fun _ => ?_, fun _ => rfl⟩, hch6.trans0 hw2⟩
                  rcases hfd.1 (by assumption) with k1 | ⟨k1, z, k2, k3, k4⟩
                  · exact .inl k1
                  · exact .inr ⟨k1, z, k2, by show z < q + 1; omega, k4⟩
                ·
                  refine TQ.via rfl rfl rfl rfl (fun w2 hw2 => TL.move rfl rfl (TL.done ⟨rfl, rfl⟩)) ?_
                  refine TQ.guardYes (d := 108) rfl rfl rfl ?_
                  refine TQ.via rfl rfl rfl rfl (fun w2 hw2 => TL.move rfl rfl (TL.done ⟨rfl, rfl⟩)) ?_
                  refine TQ.guardYes (d := 108) rfl rfl rfl ?_
                  refine TQ.via rfl rfl rfl rfl (fun w2 hw2 => TL.move rfl rfl (TL.done ⟨rfl, rfl⟩)) ?_
                  refine TQ.guardYes (d := 108) rfl rfl rfl ?_
                  refine TQ.via rfl rfl rfl rfl (fun w2 hw2 => TL.indexAddr (i) sl22 rfl rfl (by first | rfl | omega) (by omega) rfl (TL.done ⟨rfl, rfl⟩)) ?_
                  refine TQ.guardYes (d := 108) rfl rfl rfl ?_
                  refine TQ.via rfl rfl rfl rfl (fun w2 hw2 => TL.fieldAddr fd33k4 rfl rfl (TL.done ⟨rfl, rfl⟩)) ?_
                  refine TQ.guardYes (d := 108) rfl rfl rfl ?_
                  refine TQ.via rfl rfl rfl rfl (fun w2 hw2 => TL.load pl5 rfl ((show _ = some (u8 x.state) from hce _ (hch6.trans0 hw2) 4 (by decide))) rfl (TL.done ⟨rfl, rfl⟩)) ?_
                  refine TQ.guardYes (d := 108) rfl rfl rfl ?_
                  refine TQ.via rfl rfl rfl rfl (fun w2 hw2 => TL.eql rfl rfl rfl (TL.done ⟨rfl, rfl⟩)) ?_
                  refine TQ.em (fun e114 => ?_) (fun e114 => ?_)
                  ·
                    refine TQ.guardYes (d := 108) rfl rfl rfl ?_
                    refine TQ.via rfl rfl rfl rfl (fun w2 hw2 => TL.move rfl rfl (TL.done ⟨rfl, rfl⟩)) ?_
                    refine TQ.guardYes (d := 115) rfl rfl rfl ?_
                    refine TQ.via rfl rfl rfl rfl (fun w2 hw2 => TL.move rfl rfl (TL.done ⟨rfl, rfl⟩)) ?_
                    refine TQ.guardYes (d := 115) rfl rfl rfl ?_
                    refine TQ.via rfl rfl rfl rfl (fun w2 hw2 => TL.move rfl rfl (TL.done ⟨rfl, rfl⟩)) ?_
                    refine TQ.guardYes (d := 115) rfl rfl rfl ?_
                    refine TQ.via rfl rfl rfl rfl (fun w2 hw2 => TL.indexAddr (i) sl22 rfl rfl (by first | rfl | omega) (by omega) rfl (TL.done ⟨rfl, rfl⟩)) ?_
                    refine TQ.guardYes (d := 115) rfl rfl rfl ?_
                    refine TQ.via rfl rfl rfl rfl (fun w2 hw2 => TL.fieldAddr fd33k3 rfl rfl (TL.done ⟨rfl, rfl⟩)) ?_
                    refine TQ.guardYes (d := 115) rfl rfl rfl ?_
                    refine TQ.via rfl rfl rfl rfl (fun w2 hw2 => TL.load pl9 rfl ((show _ = some (str x.role) from hce _ (hch6.trans0 hw2) 3 (by decide))) rfl (TL.done ⟨rfl, rfl⟩)) ?_
                    refine TQ.guardYes (d := 115) rfl rfl rfl ?_
                    refine TQ.via rfl rfl rfl rfl (fun w2 hw2 => TL.move rfl rfl (TL.done ⟨rfl, rfl⟩)) ?_
                    refine TQ.guardYes (d := 115) rfl rfl rfl ?_
                    refine TQ.via rfl rfl rfl rfl (fun w2 hw2 => TL.move rfl rfl (TL.done ⟨rfl, rfl⟩)) ?_
                    refine TQ.guardYes (d := 115) rfl rfl rfl ?_
                    refine TQ.via rfl rfl rfl rfl (fun w2 hw2 => TL.indexAddr (q) sl23 rfl rfl (by first | rfl | omega) (by omega) rfl (TL.done ⟨rfl, rfl⟩)) ?_
                    refine TQ.guardYes (d := 115) rfl rfl rfl ?_
                    refine TQ.via rfl rfl rfl rfl (fun w2 hw2 => TL.load pl9 rfl ((show _ = some (str m[q]) from (hrr.ch0 hw2).eltIn hqm)) rfl (TL.done ⟨rfl, rfl⟩)) ?_
                    refine TQ.guardYes (d := 115) rfl rfl rfl ?_
                    refine TQ.via rfl rfl rfl rfl (fun w2 hw2 => TL.eqlStr rfl rfl rfl (TL.done ⟨rfl, rfl⟩)) ?_
                    refine TQ.guardYes (d := 108) rfl rfl rfl ?_
                    refine TQ.via rfl rfl rfl rfl (fun w2 hw2 => TL.pickT rfl rfl rfl rfl (TL.done ⟨rfl, rfl⟩)) ?_
                    refine TQ.via rfl rfl rfl rfl (fun w2 hw2 => TL.pickF rfl rfl rfl rfl (TL.done ⟨rfl, rfl⟩)) ?_
                    refine TQ.via rfl rfl rfl rfl (fun w2 hw2 => TL.assign rfl rfl (TL.done ⟨rfl, rfl⟩)) ?_
                    refine TQ.done (fun w2 hw2 => ?_)
                    refine Blk.go ?_
                    refine Thn.go ?_
                    refine TC.region ?_
                    refine TL.move rfl rfl ?_
                    refine TL.add_i64 rfl rfl (by omega) (by omega) rfl ?_
                    refine TL.assign rfl rfl ?_
                    refine TL.done ?_
                    refine Lp.go ((q + 1, decide (x.role = m[q]))) (by repeat (first | exact trivial | refine ⟨rfl, ?_⟩)) ?_ (by first | omega | (dsimp only; omega))
                    have kf : fd = false := by assumption
                    have ks : x.state.toNat = 1 := by omega
                    refine ⟨by show q + 1 ≤ m.length; omega, ⟨fun h => .inr ⟨ks, q, hqm, by show q < q + 1; omega, (of_decide_eq_true h).symm⟩, fun h => decide_eq_true ?_⟩, hch6.trans0 hw2⟩
                    rcases h with k1 | ⟨k1, z, k2, k3, k4⟩
                    · exact absurd (hfd.2 (.inl k1)) (by rw [kf]; decide)
                    · rcases Nat.lt_or_ge z q with h | h
                      · exact absurd (hfd.2 (.inr ⟨k1, z, k2, h, k4⟩)) (by rw [kf]; decide)
                      · have k5 : z < q + 1 := k3
                        obtain rfl : z = q := by omega
                        exact k4.symm
                  ·
                    refine TQ.guardYes (d := 108) rfl rfl rfl ?_
                    refine TQ.via rfl rfl rfl rfl (fun w2 hw2 => TL.move rfl rfl (TL.done ⟨rfl, rfl⟩)) ?_
                    refine TQ.guardNo (d := 115) rfl rfl rfl rfl rfl ?_
                    refine TQ.guardNo (d := 115) rfl rfl rfl rfl rfl ?_
                    refine TQ.guardNo (d := 115) rfl rfl rfl rfl rfl ?_
                    refine TQ.guardNo (d := 115) rfl rfl rfl rfl rfl ?_
                    refine TQ.guardNo (d := 115) rfl rfl rfl rfl rfl ?_
                    refine TQ.guardNo (d := 115) rfl rfl rfl rfl rfl ?_
                    refine TQ.guardNo (d := 115) rfl rfl rfl rfl rfl ?_
                    refine TQ.guardNo (d := 115) rfl rfl rfl rfl rfl ?_
                    refine TQ.guardNo (d := 115) rfl rfl rfl rfl rfl ?_
                    refine TQ.guardNo (d := 115) rfl rfl rfl rfl rfl ?_
                    refine TQ.guardYes (d := 108) rfl rfl rfl ?_
                    refine TQ.via rfl rfl rfl rfl (fun w2 hw2 => TL.pickF rfl rfl rfl rfl (TL.done ⟨rfl, rfl⟩)) ?_
                    refine TQ.via rfl rfl rfl rfl (fun w2 hw2 => TL.pickF rfl rfl rfl rfl (TL.done ⟨rfl, rfl⟩)) ?_
                    refine TQ.via rfl rfl rfl rfl (fun w2 hw2 => TL.assign rfl rfl (TL.done ⟨rfl, rfl⟩)) ?_
                    refine TQ.done (fun w2 hw2 => ?_)
                    refine Blk.go ?_
                    refine Thn.go ?_
                    refine TC.region ?_
                    refine TL.move rfl rfl ?_
                    refine TL.add_i64 rfl rfl (by omega) (by omega) rfl ?_
                    refine TL.assign rfl rfl ?_
                    refine TL.done ?_
                    refine Lp.go ((q + 1, false)) (by repeat (first | exact trivial | refine ⟨rfl, ?_⟩)) ?_ (by first | omega | (dsimp only; omega))
                    have kf : fd = false := by assumption
                    have ks : ¬ x.state.toNat = 1 := by omega
                    refine ⟨by show q + 1 ≤ m.length; omega, ⟨fun h => (Bool.false_ne_true h).elim, fun h => ?_⟩, hch6.trans0 hw2⟩
                    rcases h with k1 | ⟨k1, _⟩
                    · exact absurd (hfd.2 (.inl k1)) (by rw [kf]; decide)
                    · exact absurd k1 ks
              ·
                have hqm : q = m.length := by omega
                have hfs : fd = decide (Wk.sees x u m) := by
                  rw [Bool.eq_iff_iff, hfd, decide_eq_true_eq]
                  unfold Wk.sees
                  constructor
                  · rintro (k1 | ⟨k1, z, k2, k3, k4⟩)
                    · exact .inr k1
                    · exact .inl ⟨k1, by rw [← k4]; exact List.getElem_mem k2⟩
                  · rintro (⟨k1, k2⟩ | k1)
                    · obtain ⟨z, hz, e⟩ := List.getElem_of_mem k2
                      exact .inr ⟨k1, z, hz, by omega, e⟩
                    · exact .inl k1
                subst hfs
                refine TC.exit ?_
                refine Thn.exit ?_
                refine Lp.exit ?_
                refine Blk.hit ?_
                refine Thn.go ?_
                refine TC.seq ?_
                refine TC.seq ?_
                refine TC.region ?_
                refine TL.move rfl rfl ?_
                refine TL.notP rfl rfl ?_
                refine TL.done ?_
                refine Thn.go ?_
                refine TC.condP rfl (fun h14 => ?_) (fun h14 => ?_)
                ·
                  refine TC.exit ?_
                  refine Thn.exit ?_
                  refine Blk.hit ?_
                  refine Thn.go ?_
                  refine TC.region ?_
                  refine TL.move rfl rfl ?_
                  refine TL.add_i64 rfl rfl (by omega) (by omega) rfl ?_
                  refine TL.assign rfl rfl ?_
                  refine TL.done ?_
                  refine Lp.go ((i + 1, n2)) (by repeat (first | exact trivial | refine ⟨rfl, ?_⟩)) ?_ (by first | omega | (dsimp only; omega))
                  refine ⟨by show i + 1 ≤ l.length; omega, ?_, hch4.trans0 hch6⟩
                  show n2 = (Wk.seen (l.take (i + 1)) u m).length
                  rw [Wk.seen_no hil (by rw [hx]; assumption)]; exact hn2
                ·
                  have hss : Wk.sees x u m := Decidable.not_not.1 (by assumption)
                  obtain ⟨s1, s2⟩ := Wk.seen_at (u := u) (r := m) hil (by rw [hx]; exact hss)
                  rw [hS, ← hn2] at s1 s2
                  rw [hx] at s2
                  obtain ⟨b3, o3, rfl, _⟩ := recAt (i := n2) (((Rd.ofOwn hvS).ch0 hch4).ch0 hch6) s1
                  have hcs : ∀ w7, Ch [] w6 w7 → ∀ q, q < 6 → w7.cell? ⟨b3, o3 + n2 * 6 + q, none⟩ = (cl x)[q]? := fun w7 h7 q hq => by obtain ⟨b', o', e, hh⟩ := recAt (i := n2) ((((Rd.ofOwn hvS).ch0 hch4).ch0 hch6).ch0 h7) s1; cases e; rw [s2] at hh; exact hh q hq
                  refine TC.skip ?_
                  refine Thn.go ?_
                  refine TC.seq ?_
                  refine TC.seq ?_
                  refine TC.regionQ (fun w7 => Ch [] w6 w7) mixed0 (by kernel_rfl) (Ch.drew [] _) ?_
                  refine TQ.via rfl rfl rfl rfl (fun w2 hw2 => TL.move rfl rfl (TL.done ⟨rfl, rfl⟩)) ?_
                  refine TQ.via rfl rfl rfl rfl (fun w2 hw2 => TL.move rfl rfl (TL.done ⟨rfl, rfl⟩)) ?_
                  refine TQ.via rfl rfl rfl rfl (fun w2 hw2 => TL.lenSlice Try.underlying22 rfl rfl (TL.done ⟨rfl, rfl⟩)) ?_
                  refine TQ.via rfl rfl rfl rfl (fun w2 hw2 => TL.geq rfl rfl rfl (TL.done ⟨rfl, rfl⟩)) ?_
                  refine TQ.no (by omega) ?_
                  refine TQ.via rfl rfl rfl rfl (fun w2 hw2 => TL.move rfl rfl (TL.done ⟨rfl, rfl⟩)) ?_
                  refine TQ.guardYes (d := 134) rfl rfl rfl ?_
                  refine TQ.via rfl rfl rfl rfl (fun w2 hw2 => TL.move rfl rfl (TL.done ⟨rfl, rfl⟩)) ?_
                  refine TQ.guardYes (d := 134) rfl rfl rfl ?_
                  refine TQ.via rfl rfl rfl rfl (fun w2 hw2 => TL.move rfl rfl (TL.done ⟨rfl, rfl⟩)) ?_
                  refine TQ.guardYes (d := 134) rfl rfl rfl ?_
                  refine TQ.via rfl rfl rfl rfl (fun w2 hw2 => TL.indexAddr (n2) sl22 rfl rfl (by first | rfl | omega) (by omega) rfl (TL.done ⟨rfl, rfl⟩)) ?_
                  refine TQ.guardYes (d := 134) rfl rfl rfl ?_
                  refine TQ.via rfl rfl rfl rfl (fun w2 hw2 => TL.loadAgg (cl x) ag33 rfl rfl (fun z hz => hcs _ hw2 z hz) rfl (TL.done ⟨rfl, rfl⟩)) ?_
                  refine TQ.guardYes (d := 134) rfl rfl rfl ?_
                  refine TQ.via rfl rfl rfl rfl (fun w2 hw2 => TL.move rfl rfl (TL.done ⟨rfl, rfl⟩)) ?_
                  refine TQ.guardYes (d := 134) rfl rfl rfl ?_
                  refine TQ.via rfl rfl rfl rfl (fun w2 hw2 => TL.move rfl rfl (TL.done ⟨rfl, rfl⟩)) ?_
                  refine TQ.guardYes (d := 134) rfl rfl rfl ?_
                  refine TQ.via rfl rfl rfl rfl (fun w2 hw2 => TL.indexAddr (i) sl22 rfl rfl (by first | rfl | omega) (by omega) rfl (TL.done ⟨rfl, rfl⟩)) ?_
                  refine TQ.guardYes (d := 134) rfl rfl rfl ?_
                  refine TQ.via rfl rfl rfl rfl (fun w2 hw2 => TL.loadAgg (cl x) ag33 rfl rfl (fun z hz => hce _ (hch6.trans0 hw2) z hz) rfl (TL.done ⟨rfl, rfl⟩)) ?_
                  refine TQ.guardYes (d := 134) rfl rfl rfl ?_
                  refine TQ.via rfl rfl rfl rfl (fun w2 hw2 => TL.neqAgg gd33 (eqWork _ _ _) rfl rfl rfl (TL.done ⟨rfl, rfl⟩)) ?_
                  refine TQ.no (by simp) ?_
                  refine TQ.via rfl rfl rfl rfl (fun w2 hw2 => TL.pickF rfl rfl rfl rfl (TL.done ⟨rfl, rfl⟩)) ?_
                  refine TQ.done (fun w2 hw2 => ?_)
                  refine Thn.go ?_
                  refine TC.condF rfl rfl ?_
                  refine TC.skip ?_
                  refine Thn.go ?_
                  refine TC.region ?_
                  refine TL.move rfl rfl ?_
                  refine TL.add_i64 rfl rfl (by omega) (by omega) rfl ?_
                  refine TL.assign rfl rfl ?_
                  refine TL.done ?_
                  refine Blk.go ?_
                  refine Thn.go ?_
                  refine TC.region ?_
                  refine TL.move rfl rfl ?_
                  refine TL.add_i64 rfl rfl (by omega) (by omega) rfl ?_
                  refine TL.assign rfl rfl ?_
                  refine TL.done ?_
                  refine Lp.go ((i + 1, n2 + 1)) (by repeat (first | exact trivial | refine ⟨rfl, ?_⟩)) ?_ (by first | omega | (dsimp only; omega))
                  refine ⟨by show i + 1 ≤ l.length; omega, ?_, hch4.trans0 (hch6.trans0 hw2)⟩
                  show n2 + 1 = (Wk.seen (l.take (i + 1)) u m).length
                  rw [Wk.seen_yes hil (by rw [hx]; exact hss), List.length_append, ← hn2]; rfl
          ·
            have hil : i = l.length := by omega
            have hn3 : n2 = S.length := by rw [hn2, hil, List.take_length, hS]
            refine TC.exit ?_
            refine Thn.exit ?_
            refine Lp.exit ?_
            refine Blk.hit ?_
            refine Thn.go ?_
            refine TC.cut0 ([(8, .bool true)]) (fun w5 => Ch [] w4 w5) (fun K16 hK16 => ?_) (fun w5 hH => ?_)
            ·
              refine TC.region ?_
              refine TL.move rfl rfl ?_
              refine TL.move rfl rfl ?_
              refine TL.lenSlice Try.underlying22 rfl rfl ?_
              refine TL.eql rfl rfl rfl ?_
              refine TL.yes (by omega) ?_
              refine TL.move rfl rfl ?_
              refine TL.guardYes (d := 151) rfl rfl rfl ?_
              refine TL.move rfl rfl ?_
              refine TL.guardYes (d := 151) rfl rfl rfl ?_
              refine TL.move rfl rfl ?_
              refine TL.guardYes (d := 151) rfl rfl rfl ?_
              refine TL.call can14 rfl rfl (fn14 _ _ S S w4 (Rd.ofOwn (hown.ch0 hch4)) (Rd.ofOwn (hvS.ch0 hch4))) (fun v154 w154 hr154 => ?_)
              obtain ⟨rfl, hc154⟩ := hr154
              refine TL.yes (rfl) ?_
              refine TL.pickT rfl rfl rfl rfl ?_
              refine TL.assign rfl rfl ?_
              refine TL.done ?_
              exact hK16  _ _ (by repeat (first | exact trivial | refine ⟨rfl, ?_⟩ | refine ⟨congrArg (fun b => some (Value.bool b)) (by first | exact (decide_eq_true (by grind)).symm | exact (decide_eq_false (by grind)).symm | exact decide_eq_decide.2 (by grind) | exact decide_eq_true (by grind) | exact decide_eq_false (by grind) | (exfalso; grind)), ?_⟩)) (by first | rfl | exact hc154)
            ·
              refine TC.ret ?_
              refine Ends.ret [8] rfl rfl ?_
              exact ⟨rfl, ((q41.trans0 hch).trans0 hch4).trans0 hH⟩

