/-
  Walks through the given program: each theorem fnN says what the call of function N of the translation hands back, for all arguments that its premises describe, and that nothing that was there has turned.
-/
import Derived.Test.YtilnoklpikblgaaE17
import Derived.Test.YtilnoklpikblgaaMg5
namespace Go.Proofs.Ytilnoklpikblgaa
open Go.Lane


theorem fn3 (av : Value) (Ls : List Row) (w : World) (ha : Rd w av 1 Ls.length (vals Ls)) (hr : ∀ p ∈ Ls, Rd w p.1 4 p.2.length (p.2.flatMap cl)) (hsum : (Ls.map (·.2)).flatten.length ≤ 1048576) : Rets Try.prog 3 #[av] w (fun r w' => r = .bool true ∧ Ch [] w w') := by
  obtain ⟨ad, c, rfl, _⟩ := ha.shape
  have hmm : maxLen = 9223372036854775807 := rfl
  obtain ⟨D, hD⟩ : ∃ D, Ls.map (·.2) = D := ⟨_, rfl⟩
  refine Rets.of (n := 136) (vs := [_]) Try.func3 rfl rfl rfl ?_
  refine TC.seq ?_
  refine TC.region ?_
  refine TL.assign rfl rfl ?_
  refine TL.done ?_
  refine Thn.go ?_
  refine TC.seq ?_
  refine TC.region ?_
  refine TL.call can10 rfl rfl (fn10 w) (fun v15 w15 hr15 => ?_)
  obtain ⟨rfl, hc15⟩ := hr15
  refine TL.assign rfl rfl ?_
  refine TL.done ?_
  refine Thn.go ?_
  refine TC.seq ?_
  refine TC.seq ?_
  refine TC.region ?_
  refine TL.move rfl rfl ?_
  refine TL.not rfl rfl ?_
  refine TL.done ?_
  refine Thn.go ?_
  refine TC.condF rfl rfl ?_
  refine TC.skip ?_
  refine Thn.go ?_
  refine TC.seq ?_
  refine TC.seq ?_
  refine TC.region ?_
  refine TL.move rfl rfl ?_
  refine TL.call can11 rfl rfl (fn11 _ Ls w15 (ha.ch0 hc15) (fun p hp => (hr p hp).ch0 hc15) (by omega)) (fun v19 w19 hr19 => ?_)
  rw [hD] at hr19
  obtain ⟨rfl, hc19⟩ := hr19
  have q19 := hc15.trans0 hc19
  refine TL.done ?_
  refine Thn.go ?_
  refine TC.condP rfl (fun h2 => ?_) (fun h2 => ?_)
  ·
    refine TC.seq ?_
    refine TC.region ?_
    refine TL.move rfl rfl ?_
    refine TL.assign rfl rfl ?_
    refine TL.done ?_
    refine Thn.go ?_
    refine TC.ret ?_
    refine Thn.ret ?_
    refine Ends.ret [2] rfl rfl ?_
    exact ⟨rfl, q19⟩
  ·
    obtain ⟨hn100, hn6⟩ := heavy_no (by assumption)
    have hLl : Ls.length ≤ 100 := by rw [← hD, List.length_map] at hn100; exact hn100
    obtain ⟨R, hR⟩ : ∃ R, Ls.reverse = R := ⟨_, rfl⟩
    have hRl : R.length = Ls.length := by rw [← hR]; simp
    have hRD : R.map (·.2) = D.reverse := by rw [← hR, ← hD, List.map_reverse]
    have hRp : D.reverse.flatten.length = D.flatten.length := (En.flat_rev D).length_eq
    have hDl : D.length = Ls.length := by rw [← hD]; simp
    refine TC.skip ?_
    refine Thn.go ?_
    refine TC.seq ?_
    refine TC.region ?_
    refine TL.assign rfl rfl ?_
    refine TL.done ?_
    refine Thn.go ?_
    refine TC.seq ?_
    refine TC.region ?_
    refine TL.assign rfl rfl ?_
    refine TL.done ?_
    refine Thn.go ?_
    refine TC.seq ?_
    refine TC.seq ?_
    refine TC.region ?_
    refine TL.move rfl rfl ?_
    refine TL.lenSlice Try.underlying22 rfl rfl ?_
    refine TL.sub_i64 rfl rfl (by omega) (by omega) rfl ?_
    rw [show (Ls.length : Int) - 1 = (Ls.length : Int) - 1 - ((0 : Nat) : Int) by omega]
    refine TL.assign rfl rfl ?_
    refine TL.done ?_
    refine Thn.go ?_
    refine TC.block ?_
    refine TC.loop2 (fun (i : Nat) (ov : Value) => [(0, .slice ad Ls.length c), (3, .bool true), (4, ov), (5, .int .i64 (En.many D.reverse i : Int)), (6, .int .i64 ((Ls.length : Int) - 1 - (i : Int)))]) (fun i ov w' => i ≤ Ls.length ∧ Own w' w19.heap.size 25 1 ov (R.take i).length (vals (R.take i)) ∧ Ch [] w19 w') (fun i _ => Ls.length - i) 0 (.slice none 0 0) (by repeat (first | exact trivial | refine ⟨rfl, ?_⟩)) (⟨by omega, World.ownsRow_nil _ _ _ _, Ch.refl _ _⟩) (fun i ov w' hH => ?_)
    obtain ⟨hi, hown, hch⟩ := hH
    have hti : (R.take i).length = i := by rw [List.length_take]; omega
    refine TC.seq ?_
    refine TC.seq ?_
    refine TC.region ?_
    refine TL.move rfl rfl ?_
    refine TL.geq rfl rfl rfl ?_
    refine TL.done ?_
    refine Thn.go ?_
    refine TC.condP rfl (fun h3 => ?_) (fun h3 => ?_)
    ·
      have hil : i < Ls.length := by omega
      obtain ⟨b1, o1, rfl⟩ := ha.some_ (by omega)
      have hjl : Ls.length - 1 - i < Ls.length := by omega
      have hcell : ∀ w2, Ch [] w w2 → w2.cell? ⟨b1, o1 + (Ls.length - 1 - i) * 1, none⟩ = some Ls[Ls.length - 1 - i].1 := fun w2 h2 => Rd.eltIn (f := (·.1)) (ha.ch0 h2) hjl
      have hri := hr Ls[Ls.length - 1 - i] (List.getElem_mem hjl)
      have hRi : R[i]'(by omega) = Ls[Ls.length - 1 - i] := by subst hR; rw [List.getElem_reverse]
      have htk : R.take (i + 1) = R.take i ++ [Ls[Ls.length - 1 - i]] := by rw [List.take_add_one, List.getElem?_eq_getElem (by omega : i < R.length), hRi]; rfl
      have hDi : (D.reverse)[i]'(by simp; omega) = Ls[Ls.length - 1 - i].2 := by subst hD; simp
      have hmn := En.many_next (Ls := D.reverse) (k := i) (by simp; omega)
      have hml := En.many_le D.reverse (i + 1)
      rw [hDi] at hmn
      obtain ⟨x, ex⟩ : ∃ x, Ls[Ls.length - 1 - i] = x := ⟨_, rfl⟩
      rw [ex] at hcell hri hmn htk
      obtain ⟨xv, r⟩ := x
      replace hri : Rd w xv 4 r.length (r.flatMap cl) := hri
      replace hmn : En.many D.reverse (i + 1) = En.many D.reverse i + r.length := hmn
      obtain ⟨ar, cr, rfl, _⟩ := hri.shape
      refine TC.skip ?_
      refine Thn.go ?_
      refine TC.seq ?_
      refine TC.block ?_
      refine TC.seq ?_
      refine TC.region ?_
      refine TL.move rfl rfl ?_
      refine TL.move rfl rfl ?_
      refine TL.move rfl rfl ?_
      refine TL.indexAddr (Ls.length - 1 - i) sl22 rfl rfl (by first | rfl | omega) (by omega) rfl ?_
      refine TL.load pl25 rfl (hcell _ (q19.trans0 hch)) rfl ?_
      refine TL.buildSlice [.tmp 32] sl22 rfl rfl rfl (by decide) (by first | simp [Value.cells]; done | simp [Value.cells, cl_len]; done) rfl (fun w33 hb33 hc33 hz33 => ?_)
      refine TL.append sl22 rfl rfl rfl (hown.ch0 hc33) (News.ofRd Try.underlying22 (Rd.ofRow (cs := [.slice ar r.length cr]) hb33 rfl (by decide)) (one_slice _ _ _)) (by omega) (by omega) (by have := hch.size; have := hc33.size; omega) (fun v34 w34 hv34 hc34 _ => ?_)
      have q34 : Ch [] w19 w34 := (hown.ch0 hc33).thenCh' (hch.trans0 hc33) hc34 (Nat.le_refl _)
      refine TL.assign rfl rfl ?_
      refine TL.done ?_
      refine Thn.go ?_
      refine TC.region ?_
      refine TL.move rfl rfl ?_
      refine TL.move rfl rfl ?_
      refine TL.move rfl rfl ?_
      refine TL.indexAddr (Ls.length - 1 - i) sl22 rfl rfl (by first | rfl | omega) (by omega) rfl ?_
      refine TL.load pl25 rfl (hcell _ (q19.trans0 q34)) rfl ?_
      refine TL.lenSlice Try.underlying25 rfl rfl ?_
      refine TL.add_i64 rfl rfl (by omega) (by omega) rfl ?_
      rw [show ((En.many D.reverse i : Nat) : Int) + (r.length : Int) = ((En.many D.reverse (i + 1) : Nat) : Int) by omega]
      refine TL.assign rfl rfl ?_
      refine TL.done ?_
      refine Blk.go ?_
      refine Thn.go ?_
      refine TC.region ?_
      refine TL.move rfl rfl ?_
      refine TL.sub_i64 rfl rfl (by omega) (by omega) rfl ?_
      rw [show (Ls.length : Int) - 1 - (i : Int) - 1 = (Ls.length : Int) - 1 - ((i + 1 : Nat) : Int) by omega]
      refine TL.assign rfl rfl ?_
      refine TL.done ?_
      refine Lp.go ((i + 1, v34)) (by repeat (first | exact trivial | refine ⟨rfl, ?_⟩)) ?_ (by first | omega | (dsimp only; omega))
      exact ⟨by show i + 1 ≤ Ls.length; omega, by show Own w34 w19.heap.size 25 1 v34 (R.take (i + 1)).length (vals (R.take (i + 1))); rw [htk, List.length_append, vals_app]; exact hv34, q34⟩
    ·
      have hil : i = Ls.length := by omega
      rw [hil, ← hRl, List.take_length] at hown
      have hmall := En.many_all D.reverse
      rw [List.length_reverse, hDl, ← hil] at hmall
      have q25 := q19.trans0 hch
      refine TC.exit ?_
      refine Thn.exit ?_
      refine Lp.exit ?_
      refine Blk.hit ?_
      refine Thn.go ?_
      refine TC.seq ?_
      refine TC.region ?_
      refine TL.move rfl rfl ?_
      refine TL.call can12 rfl rfl (fn12 _ Ls w' (ha.ch0 q25) (fun p hp => (hr p hp).ch0 q25) (by omega)) (fun v44 w44 hr44 => ?_)
      rw [hD] at hr44
      obtain ⟨o44, rfl, hv44, hc44⟩ := hr44
      refine TL.move rfl rfl ?_
      refine TL.extract rfl rfl rfl ?_
      refine TL.extract rfl rfl rfl ?_
      refine TL.assign rfl rfl ?_
      refine TL.assign rfl rfl ?_
      refine TL.done ?_
      refine Thn.go ?_
      refine TC.seq ?_
      refine TC.region ?_
      refine TL.move rfl rfl ?_
      refine TL.call can12 rfl rfl (fn12 _ R w44 (Rd.ofOwn (hown.ch0 hc44)) (fun p hp => (hr p (by rw [← hR] at hp; simpa using hp)).ch0 (q25.trans0 hc44)) (by rw [hRD]; omega)) (fun v49 w49 hr49 => ?_)
      rw [hRD] at hr49
      obtain ⟨o49, rfl, hv49, hc49⟩ := hr49
      have q49 : Ch [] w w49 := q25.trans0 (hc44.trans0 hc49)
      have hiff := En.all_rev D
      refine TL.move rfl rfl ?_
      refine TL.extract rfl rfl rfl ?_
      refine TL.extract rfl rfl rfl ?_
      refine TL.assign rfl rfl ?_
      refine TL.assign rfl rfl ?_
      refine TL.done ?_
      refine Thn.go ?_
      refine TC.seq ?_
      refine TC.regionBool (d := 57) (p := (¬ En.allE D = 0 ∨ ¬ En.allE D.reverse = 0)) (fun K4 hK4 => ?_) ?_
      ·
        refine TL.move rfl rfl ?_
        refine TL.neq rfl rfl rfl ?_
        refine TL.em (fun e53 => ?_) (fun e53 => ?_)
        ·
          refine TL.move rfl rfl ?_
          refine TL.guardNo (d := 54) rfl rfl rfl rfl rfl ?_
          refine TL.guardNo (d := 54) rfl rfl rfl rfl rfl ?_
          refine TL.pickT rfl rfl rfl rfl ?_
          refine TL.done ?_
          refine hK4 _ ?_
          refine Le.here rfl (by first | exact decide_eq_true (by omega) | exact decide_eq_false (by omega) | exact decide_eq_decide.2 (by omega) | exact decide_eq_true (by grind) | exact decide_eq_false (by grind) | exact decide_eq_decide.2 (by grind)) ?_
          repeat (first | exact Le.refl _ | refine Le.skip rfl ?_)
        ·
          refine TL.move rfl rfl ?_
          refine TL.guardYes (d := 54) rfl rfl rfl ?_
          refine TL.move rfl rfl ?_
          refine TL.guardYes (d := 54) rfl rfl rfl ?_
          refine TL.neq rfl rfl rfl ?_
          refine TL.pickF rfl rfl rfl rfl ?_
          refine TL.done ?_
          refine hK4 _ ?_
          refine Le.here rfl (by first | exact decide_eq_true (by omega) | exact decide_eq_false (by omega) | exact decide_eq_decide.2 (by omega) | exact decide_eq_true (by grind) | exact decide_eq_false (by grind) | exact decide_eq_decide.2 (by grind)) ?_
          repeat (first | exact Le.refl _ | refine Le.skip rfl ?_)
      refine TC.condP rfl (fun h6 => ?_) (fun h6 => ?_)
      ·
        refine TC.seq ?_
        refine TC.region ?_
        refine TL.move rfl rfl ?_
        refine TL.move rfl rfl ?_
        refine TL.guardYes (d := 59) rfl rfl rfl ?_
        refine TL.move rfl rfl ?_
        refine TL.guardYes (d := 59) rfl rfl rfl ?_
        refine TL.neq rfl rfl rfl ?_
        refine TL.guardYes (d := 59) rfl rfl rfl ?_
        refine TL.move rfl rfl ?_
        refine TL.guardYes (d := 59) rfl rfl rfl ?_
        refine TL.neq rfl rfl rfl ?_
        refine TL.guardYes (d := 59) rfl rfl rfl ?_
        refine TL.eqlBool Try.underlying4 rfl rfl rfl ?_
        refine TL.pickT rfl rfl rfl rfl ?_
        refine TL.assign rfl rfl ?_
        refine TL.done ?_
        refine Thn.go ?_
        refine TC.ret ?_
        refine Thn.ret ?_
        refine Ends.ret [2] rfl rfl ?_
        exact ⟨by show Value.bool (decide (_ = _)) = _; rw [decide_eq_true (decide_eq_decide.2 (by omega))], q49⟩
      ·
        have hz : En.allE D = 0 := by omega
        obtain ⟨_, hzc, _, hpm, hs⟩ := En.all_zero hz
        have hlen := hpm.length_eq
        rw [(En.all_rev0 hz).2] at hv49
        have hal : ∀ x, x ∈ En.allL D ↔ x ∈ D.flatten := fun x => hpm.mem_iff
        obtain ⟨al, hl0⟩ : ∃ al, En.allL D = al := ⟨_, rfl⟩
        rw [hl0] at hv44 hv49 hs hlen hal
        obtain ⟨d44, p44, rfl⟩ := hv44.shape
        refine TC.skip ?_
        refine Thn.go ?_
        refine TC.seq ?_
        refine TC.seq ?_
        refine TC.region ?_
        refine TL.move rfl rfl ?_
        refine TL.lenSlice Try.underlying25 rfl rfl ?_
        refine TL.move rfl rfl ?_
        refine TL.neq rfl rfl rfl ?_
        refine TL.no (fun h => h (by omega)) ?_
        refine TL.move rfl rfl ?_
        refine TL.guardYes (d := 70) rfl rfl rfl ?_
        refine TL.move rfl rfl ?_
        refine TL.guardYes (d := 70) rfl rfl rfl ?_
        refine TL.move rfl rfl ?_
        refine TL.guardYes (d := 70) rfl rfl rfl ?_
        refine TL.call can13 rfl rfl (fn13 _ _ al al w49 (Rd.ofOwn (hv44.ch0 hc49)) (Rd.ofOwn hv49)) (fun v73 w73 hr73 => ?_)
        obtain ⟨rfl, hc73⟩ := hr73
        have q73 := q49.trans0 hc73
        have hA : Rd w73 (.slice d44 al.length p44) 4 al.length (al.flatMap cl) := Rd.ofOwn ((hv44.ch0 hc49).ch0 hc73)
        refine TL.yes (rfl) ?_
        refine TL.guardYes (d := 70) rfl rfl rfl ?_
        refine TL.not rfl rfl ?_
        refine TL.pickF rfl rfl rfl rfl ?_
        refine TL.done ?_
        refine Thn.go ?_
        refine TC.condF rfl rfl ?_
        refine TC.skip ?_
        refine Thn.go ?_
        refine TC.seq ?_
        refine TC.seq ?_
        refine TC.region ?_
        refine TL.assign rfl rfl ?_
        refine TL.done ?_
        refine Thn.go ?_
        refine TC.block ?_
        refine TC.loop1 (fun (i : Nat) => [(0, .slice ad Ls.length c), (3, .bool true), (7, .slice d44 al.length p44), (11, .int .i64 ((i + 1 : Nat) : Int))]) (fun i w2 => Ch [] w73 w2) (fun i => al.length - i) 0 (by repeat (first | exact trivial | refine ⟨rfl, ?_⟩)) (Ch.refl _ _) (fun i w2 hch2 => ?_)
        refine TC.seq ?_
        refine TC.seq ?_
        refine TC.region ?_
        refine TL.move rfl rfl ?_
        refine TL.move rfl rfl ?_
        refine TL.lenSlice Try.underlying25 rfl rfl ?_
        refine TL.lss rfl rfl rfl ?_
        refine TL.done ?_
        refine Thn.go ?_
        refine TC.condP rfl (fun h8 => ?_) (fun h8 => ?_)
        ·
          have hil2 : i + 1 < al.length := by omega
          obtain ⟨b5, o5, rfl, hall5⟩ := recAll hA (by omega)
          refine TC.skip ?_
          refine Thn.go ?_
          refine TC.seq ?_
          refine TC.block ?_
          refine TC.seq ?_
          refine TC.regionQ (fun w6 => Ch [] w73 w6) mixed0 (by kernel_rfl) (hch2.trans0 (Ch.drew [] _)) ?_
          refine TQ.via rfl rfl rfl rfl (fun w2 hw2 => TL.move rfl rfl (TL.done ⟨rfl, rfl⟩)) ?_
          refine TQ.via rfl rfl rfl rfl (fun w2 hw2 => TL.move rfl rfl (TL.done ⟨rfl, rfl⟩)) ?_
          refine TQ.via rfl rfl rfl rfl (fun w2 hw2 => TL.sub_i64 rfl rfl (by omega) (by omega) rfl (TL.done ⟨rfl, rfl⟩)) ?_
          refine TQ.via rfl rfl rfl rfl (fun w2 hw2 => TL.indexAddr (i) sl25 rfl rfl (by first | rfl | omega) (by omega) rfl (TL.done ⟨rfl, rfl⟩)) ?_
          refine TQ.via rfl rfl rfl rfl (fun w2 hw2 => TL.loadAgg (cl (En.rec al i)) ag32 rfl rfl (fun j hj => hall5 i (by omega) _ hw2 j hj) rfl (TL.done ⟨rfl, rfl⟩)) ?_
          refine TQ.via rfl rfl rfl rfl (fun w2 hw2 => TL.move rfl rfl (TL.done ⟨rfl, rfl⟩)) ?_
          refine TQ.via rfl rfl rfl rfl (fun w2 hw2 => TL.move rfl rfl (TL.done ⟨rfl, rfl⟩)) ?_
          refine TQ.via rfl rfl rfl rfl (fun w2 hw2 => TL.indexAddr (i + 1) sl25 rfl rfl (by first | rfl | omega) (by omega) rfl (TL.done ⟨rfl, rfl⟩)) ?_
          refine TQ.via rfl rfl rfl rfl (fun w2 hw2 => TL.loadAgg (cl (En.rec al (i + 1))) ag32 rfl rfl (fun j hj => hall5 (i + 1) hil2 _ hw2 j hj) rfl (TL.done ⟨rfl, rfl⟩)) ?_
          refine TQ.call (.bool (decide (En.less (En.rec al i) (En.rec al (i + 1))))) can14 rfl rfl (fun w2 hw2 => (fn14 _ _ w2).mono (fun _ _ ⟨q1, q2⟩ => ⟨q1, hw2.trans0 q2⟩)) ?_
          refine TQ.via rfl rfl rfl rfl (fun w2 hw2 => TL.notP rfl rfl (TL.done ⟨rfl, rfl⟩)) ?_
          refine TQ.done (fun w2 hw2 => ?_)
          refine Thn.go ?_
          refine TC.condP rfl (fun h9 => ?_) (fun h9 => ?_)
          ·
            refine TC.seq ?_
            refine TC.region ?_
            refine TL.assign rfl rfl ?_
            refine TL.done ?_
            refine Thn.go ?_
            refine TC.ret ?_
            refine Blk.ret ?_
            refine Thn.ret ?_
            refine Lp.ret ?_
            refine Blk.ret ?_
            refine Thn.ret ?_
            refine Ends.ret [2] rfl rfl ?_
            exact absurd (En.rises_at hs (by omega : i < i + 1) hil2) (by assumption)
          ·
            refine TC.skip ?_
            refine Blk.go ?_
            refine Thn.go ?_
            refine TC.region ?_
            refine TL.move rfl rfl ?_
            refine TL.add_i64 rfl rfl (by omega) (by omega) rfl ?_
            refine TL.assign rfl rfl ?_
            refine TL.done ?_
            refine Lp.go (i + 1) (by repeat (first | exact trivial | refine ⟨rfl, ?_⟩)) ?_ (by first | omega | (dsimp only; omega))
            exact hw2
        ·
          refine TC.exit ?_
          refine Thn.exit ?_
          refine Lp.exit ?_
          refine Blk.hit ?_
          refine Thn.go ?_
          refine TC.seq ?_
          refine TC.seq ?_
          refine TC.region ?_
          refine TL.assign rfl rfl ?_
          refine TL.done ?_
          refine Thn.go ?_
          refine TC.block ?_
          refine TC.loop1 (fun (i : Nat) => [(0, .slice ad Ls.length c), (3, .bool true), (7, .slice d44 al.length p44), (12, .int .i64 (i : Int))]) (fun i w3 => i ≤ Ls.length ∧ Ch [] w73 w3) (fun i => Ls.length - i) 0 (by repeat (first | exact trivial | refine ⟨rfl, ?_⟩)) (⟨by omega, hch2⟩) (fun i w3 hH3 => ?_)
          obtain ⟨hi3, hch3⟩ := hH3
          refine TC.seq ?_
          refine TC.seq ?_
          refine TC.region ?_
          refine TL.move rfl rfl ?_
          refine TL.move rfl rfl ?_
          refine TL.lenSlice Try.underlying22 rfl rfl ?_
          refine TL.lss rfl rfl rfl ?_
          refine TL.done ?_
          refine Thn.go ?_
          refine TC.condP rfl (fun h10 => ?_) (fun h10 => ?_)
          ·
            have hil3 : i < Ls.length := by omega
            obtain ⟨b1, o1, rfl⟩ := ha.some_ (by omega)
            have hcell : ∀ w2, Ch [] w73 w2 → w2.cell? ⟨b1, o1 + i * 1, none⟩ = some Ls[i].1 := fun w2 h2 => Rd.eltIn (f := (·.1)) (ha.ch0 (q73.trans0 h2)) hil3
            have hri := hr Ls[i] (List.getElem_mem hil3)
            have hrs : Ls[i].2.Pairwise En.less := En.check_rises (hzc _ (by rw [← hD]; exact List.mem_map_of_mem (List.getElem_mem hil3)))
            have hin : ∀ x ∈ Ls[i].2, x ∈ al := fun x hx => (hal x).2 (List.mem_flatten.2 ⟨_, by rw [← hD]; exact List.mem_map_of_mem (List.getElem_mem hil3), hx⟩)
            obtain ⟨x, ex⟩ : ∃ x, Ls[i] = x := ⟨_, rfl⟩
            rw [ex] at hcell hri hrs hin
            obtain ⟨xv, r⟩ := x
            replace hri : Rd w xv 4 r.length (r.flatMap cl) := hri
            replace hrs : r.Pairwise En.less := hrs
            replace hin : ∀ x ∈ r, x ∈ al := hin
            have hrn := hri.nlt
            have han := hA.nlt
            obtain ⟨ar, cr, rfl, _⟩ := hri.shape
            refine TC.skip ?_
            refine Thn.go ?_
            refine TC.seq ?_
            refine TC.block ?_
            refine TC.seq ?_
            refine TC.region ?_
            refine TL.assign rfl rfl ?_
            refine TL.done ?_
            refine Thn.go ?_
            refine TC.seq ?_
            refine TC.seq ?_
            refine TC.region ?_
            refine TL.assign rfl rfl ?_
            refine TL.done ?_
            refine Thn.go ?_
            refine TC.block ?_
            refine TC.loop2 (fun (m : Nat) (t : Nat) => [(0, .slice (some ⟨b1, o1, none⟩) Ls.length c), (3, .bool true), (7, .slice d44 al.length p44), (12, .int .i64 (i : Int)), (13, .int .i64 (t : Int)), (14, .int .i64 (m : Int))]) (fun m t w4 => m ≤ al.length ∧ t ≤ r.length ∧ (∀ x ∈ r.drop t, x ∈ al.drop m) ∧ Ch [] w73 w4) (fun m _ => al.length - m) 0 0 (by repeat (first | exact trivial | refine ⟨rfl, ?_⟩)) (⟨by omega, by omega, hin, hch3⟩) (fun m t w4 hH4 => ?_)
            obtain ⟨hm4, ht4, hsc, hch4⟩ := hH4
            refine TC.seq ?_
            refine TC.regionBool (d := 111) (p := (m < al.length ∧ t < r.length)) (fun K11 hK11 => ?_) ?_
            ·
              refine TL.move rfl rfl ?_
              refine TL.move rfl rfl ?_
              refine TL.lenSlice Try.underlying25 rfl rfl ?_
              refine TL.lss rfl rfl rfl ?_
              refine TL.em (fun e102 => ?_) (fun e102 => ?_)
              ·
                refine TL.move rfl rfl ?_
                refine TL.guardYes (d := 103) rfl rfl rfl ?_
                refine TL.move rfl rfl ?_
                refine TL.guardYes (d := 103) rfl rfl rfl ?_
                refine TL.move rfl rfl ?_
                refine TL.guardYes (d := 103) rfl rfl rfl ?_
                refine TL.move rfl rfl ?_
                refine TL.guardYes (d := 103) rfl rfl rfl ?_
                refine TL.indexAddr (i) sl22 rfl rfl (by first | rfl | omega) (by omega) rfl ?_
                refine TL.guardYes (d := 103) rfl rfl rfl ?_
                refine TL.load pl25 rfl (hcell _ hch4) rfl ?_
                refine TL.guardYes (d := 103) rfl rfl rfl ?_
                refine TL.lenSlice Try.underlying25 rfl rfl ?_
                refine TL.guardYes (d := 103) rfl rfl rfl ?_
                refine TL.lss rfl rfl rfl ?_
                refine TL.pickT rfl rfl rfl rfl ?_
                refine TL.done ?_
                refine hK11 _ ?_
                refine Le.here rfl (by first | exact decide_eq_true (by omega) | exact decide_eq_false (by omega) | exact decide_eq_decide.2 (by omega) | exact decide_eq_true (by grind) | exact decide_eq_false (by grind) | exact decide_eq_decide.2 (by grind)) ?_
                repeat (first | exact Le.refl _ | refine Le.skip rfl ?_)
              ·
                refine TL.move rfl rfl ?_
                refine TL.guardNo (d := 103) rfl rfl rfl rfl rfl ?_
                refine TL.guardNo (d := 103) rfl rfl rfl rfl rfl ?_
                refine TL.guardNo (d := 103) rfl rfl rfl rfl rfl ?_
                refine TL.guardNo (d := 103) rfl rfl rfl rfl rfl ?_
                refine TL.guardNo (d := 103) rfl rfl rfl rfl rfl ?_
                refine TL.guardNo (d := 103) rfl rfl rfl rfl rfl ?_
                refine TL.guardNo (d := 103) rfl rfl rfl rfl rfl ?_
                refine TL.pickF rfl rfl rfl rfl ?_
                refine TL.done ?_
                refine hK11 _ ?_
                refine Le.here rfl (by first | exact decide_eq_true (by omega) | exact decide_eq_false (by omega) | exact decide_eq_decide.2 (by omega) | exact decide_eq_true (by grind) | exact decide_eq_false (by grind) | exact decide_eq_decide.2 (by grind)) ?_
                repeat (first | exact Le.refl _ | refine Le.skip rfl ?_)
            refine TC.condP rfl (fun h13 => ?_) (fun h13 => ?_)
            ·
              obtain ⟨hml, htl⟩ : m < al.length ∧ t < r.length := by assumption
              obtain ⟨b5, o5, rfl, hca⟩ := recIn hA hml
              obtain ⟨b6, o6, rfl, hcr⟩ := recIn hri htl
              refine TC.skip ?_
              refine Thn.go ?_
              refine TC.seq ?_
              refine TC.block ?_
              refine TC.seq ?_
              refine TC.regionQ (fun w6 => Ch [] w73 w6) mixed0 (by kernel_rfl) (hch4.trans0 (Ch.drew [] _)) ?_
              refine TQ.via rfl rfl rfl rfl (fun w2 hw2 => TL.move rfl rfl (TL.done ⟨rfl, rfl⟩)) ?_
              refine TQ.via rfl rfl rfl rfl (fun w2 hw2 => TL.move rfl rfl (TL.done ⟨rfl, rfl⟩)) ?_
              refine TQ.via rfl rfl rfl rfl (fun w2 hw2 => TL.indexAddr (m) sl25 rfl rfl (by first | rfl | omega) (by omega) rfl (TL.done ⟨rfl, rfl⟩)) ?_
              refine TQ.via rfl rfl rfl rfl (fun w2 hw2 => TL.loadAgg (cl (En.rec al m)) ag32 rfl rfl (fun j hj => hca _ hw2 j hj) rfl (TL.done ⟨rfl, rfl⟩)) ?_
              refine TQ.via rfl rfl rfl rfl (fun w2 hw2 => TL.move rfl rfl (TL.done ⟨rfl, rfl⟩)) ?_
              refine TQ.via rfl rfl rfl rfl (fun w2 hw2 => TL.move rfl rfl (TL.done ⟨rfl, rfl⟩)) ?_
              refine TQ.via rfl rfl rfl rfl (fun w2 hw2 => TL.indexAddr (i) sl22 rfl rfl (by first | rfl | omega) (by omega) rfl (TL.done ⟨rfl, rfl⟩)) ?_
              refine TQ.via rfl rfl rfl rfl (fun w2 hw2 => TL.load pl25 rfl (hcell _ hw2) rfl (TL.done ⟨rfl, rfl⟩)) ?_
              refine TQ.via rfl rfl rfl rfl (fun w2 hw2 => TL.move rfl rfl (TL.done ⟨rfl, rfl⟩)) ?_
              refine TQ.via rfl rfl rfl rfl (fun w2 hw2 => TL.indexAddr (t) sl25 rfl rfl (by first | rfl | omega) (by omega) rfl (TL.done ⟨rfl, rfl⟩)) ?_
              refine TQ.via rfl rfl rfl rfl (fun w2 hw2 => TL.loadAgg (cl (En.rec r t)) ag32 rfl rfl (fun j hj => hcr _ (q73.trans0 hw2) j hj) rfl (TL.done ⟨rfl, rfl⟩)) ?_
              refine TQ.via rfl rfl rfl rfl (fun w2 hw2 => TL.eqlAgg gd32 (eqEntry _ _ _) rfl rfl rfl (TL.done ⟨rfl, rfl⟩)) ?_
              refine TQ.done (fun w2 hw2 => ?_)
              refine Thn.go ?_
              refine TC.condP rfl (fun h14 => ?_) (fun h14 => ?_)
              ·
                refine TC.region ?_
                refine TL.move rfl rfl ?_
                refine TL.add_i64 rfl rfl (by omega) (by omega) rfl ?_
                refine TL.assign rfl rfl ?_
                refine TL.done ?_
                refine Blk.go ?_
                refine Thn.go ?_
                refine TC.region ?_
                refine TL.move rfl rfl ?_
                refine TL.add_i64 rfl rfl (by omega) (by omega) rfl ?_
                refine TL.assign rfl rfl ?_
                refine TL.done ?_
                refine Lp.go ((m + 1, t + 1)) (by repeat (first | exact trivial | refine ⟨rfl, ?_⟩)) ?_ (by first | omega | (dsimp only; omega))
                exact ⟨by show m + 1 ≤ al.length; omega, by show t + 1 ≤ r.length; omega, En.scan_hit hrs hml htl hsc (by assumption), hw2⟩
              ·
                refine TC.skip ?_
                refine Blk.go ?_
                refine Thn.go ?_
                refine TC.region ?_
                refine TL.move rfl rfl ?_
                refine TL.add_i64 rfl rfl (by omega) (by omega) rfl ?_
                refine TL.assign rfl rfl ?_
                refine TL.done ?_
                refine Lp.go ((m + 1, t)) (by repeat (first | exact trivial | refine ⟨rfl, ?_⟩)) ?_ (by first | omega | (dsimp only; omega))
                exact ⟨by show m + 1 ≤ al.length; omega, ht4, En.scan_miss hs hrs hml htl hsc (by assumption), hw2⟩
            ·
              have hte : t = r.length := by
                rcases Nat.lt_or_ge t r.length with h | h
                · have hme : m = al.length := by omega
                  rw [hme] at hsc
                  exact En.scan_end hsc ht4
                · omega
              refine TC.exit ?_
              refine Thn.exit ?_
              refine Lp.exit ?_
              refine Blk.hit ?_
              refine Thn.go ?_
              refine TC.seq ?_
              refine TC.region ?_
              refine TL.move rfl rfl ?_
              refine TL.move rfl rfl ?_
              refine TL.move rfl rfl ?_
              refine TL.indexAddr (i) sl22 rfl rfl (by first | rfl | omega) (by omega) rfl ?_
              refine TL.load pl25 rfl (hcell _ hch4) rfl ?_
              refine TL.lenSlice Try.underlying25 rfl rfl ?_
              refine TL.neq rfl rfl rfl ?_
              refine TL.no (by omega) ?_
              refine TL.done ?_
              refine Thn.go ?_
              refine TC.condF rfl rfl ?_
              refine TC.skip ?_
              refine Blk.go ?_
              refine Thn.go ?_
              refine TC.region ?_
              refine TL.move rfl rfl ?_
              refine TL.add_i64 rfl rfl (by omega) (by omega) rfl ?_
              refine TL.assign rfl rfl ?_
              refine TL.done ?_
              refine Lp.go (i + 1) (by repeat (first | exact trivial | refine ⟨rfl, ?_⟩)) ?_ (by first | omega | (dsimp only; omega))
              exact ⟨by omega, hch4⟩
          ·
            refine TC.exit ?_
            refine Thn.exit ?_
            refine Lp.exit ?_
            refine Blk.hit ?_
            refine Thn.go ?_
            refine TC.seq ?_
            refine TC.region ?_
            refine TL.move rfl rfl ?_
            refine TL.assign rfl rfl ?_
            refine TL.done ?_
            refine Thn.go ?_
            refine TC.ret ?_
            refine Ends.ret [2] rfl rfl ?_
            exact ⟨rfl, q73.trans0 hch3⟩

