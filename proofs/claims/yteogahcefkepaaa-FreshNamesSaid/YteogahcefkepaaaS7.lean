/-
  Walks through the given program: each theorem fnN says what the call of function N of the translation hands back, for all arguments that its premises describe, and that nothing that was there has turned.
-/
import Derived.Test.YteogahcefkepaaaS6
namespace Go.Proofs.Yteogahcefkepaaa
open Go.Lane


theorem fn7 (av : Value) (l : List En.Entry) (k : List UInt8) (q : Int) (w : World) (ha : Rd w av 4 l.length (l.flatMap cl)) : Rets Try.prog 7 #[av, str k, .int .i64 q] w (fun r w' => r = .bool true ∧ Ch [] w w') := by
  obtain ⟨ad, c, rfl, _⟩ := ha.shape
  have hmm : maxLen = 9223372036854775807 := rfl
  refine Rets.of (n := 138) (vs := [_, _, _]) Try.func7 rfl rfl rfl ?_
  refine TC.seq ?_
  refine TC.region ?_
  refine TL.assign rfl rfl ?_
  refine TL.done ?_
  refine Thn.go ?_
  refine TC.seq ?_
  refine TC.region ?_
  refine TL.call can20 rfl rfl (fn20 w) (fun v18 w18 hr18 => ?_)
  obtain ⟨rfl, hc18⟩ := hr18
  refine TL.assign rfl rfl ?_
  refine TL.done ?_
  refine Thn.go ?_
  refine TC.seq ?_
  refine TC.seq ?_
  refine TC.region ?_
  refine TL.move rfl rfl ?_
  refine TL.not rfl rfl ?_
  refine TL.done ?_
  refine Thn.go ?_
  refine TC.condF rfl rfl ?_
  refine TC.skip ?_
  refine Thn.go ?_
  refine TC.seq ?_
  refine TC.seq ?_
  refine TC.region ?_
  refine TL.move rfl rfl ?_
  refine TL.lenSlice Try.underlying22 rfl rfl ?_
  refine TL.gtr rfl rfl rfl ?_
  refine TL.done ?_
  refine Thn.go ?_
  refine TC.condP rfl (fun h2 => ?_) (fun h2 => ?_)
  ·
    refine TC.seq ?_
    refine TC.region ?_
    refine TL.move rfl rfl ?_
    refine TL.assign rfl rfl ?_
    refine TL.done ?_
    refine Thn.go ?_
    refine TC.ret ?_
    refine Thn.ret ?_
    refine Ends.ret [6] rfl rfl ?_
    exact ⟨rfl, hc18⟩
  ·
    have hl200 : l.length ≤ 200 := by omega
    refine TC.skip ?_
    refine Thn.go ?_
    refine TC.seq ?_
    refine TC.region ?_
    refine TL.call can9 rfl rfl (fn9 w18) (fun v25 w25 hr25 => ?_)
    obtain ⟨Q, hd, rfl, hSk0, hge0, hc25⟩ := hr25
    have q25 := hc18.trans0 hc25
    have hQ : ∀ b ∈ Q :: feet [hd], w.heap.size ≤ b := fun b hb => by have := hge0 b hb; have := hc18.size; omega
    refine TL.assign rfl rfl ?_
    refine TL.done ?_
    refine Thn.go ?_
    refine TC.seq ?_
    refine TC.region ?_
    refine TL.buildRec [] [] (cl e0) rfl rfl (by kernel_rfl) rfl ?_
    refine TL.alloc ze30 rfl (fun w11 hb11 hc11 hz11 => ?_)
    refine TL.assign rfl rfl ?_
    refine TL.assign rfl rfl ?_
    refine TL.store sz30 rfl rfl rfl hb11 (by simp [Value.cells]) (by simpa [Value.cells] using cl_one e0) (.inl rfl) (fun ws1 hbs1 hcs1 hzs1 => ?_)
    replace hbs1 : Has ws1 w25.heap.size (cl e0).toArray 30 (0, 0) := hbs1.setAll rfl
    have j11 : Ch [] w25 ws1 := hc11.then1 hcs1 (Nat.le_refl _)
    have hX : ∀ b ∈ Q :: feet [hd], b ≠ w25.heap.size := fun b hb e => by have := hSk0.lt b hb; omega
    have hw25 : w.heap.size ≤ w25.heap.size := q25.size
    refine TL.done ?_
    refine Thn.go ?_
    refine TC.seq ?_
    refine TC.seq ?_
    refine TC.region ?_
    refine TL.assign rfl rfl ?_
    refine TL.done ?_
    refine Thn.go ?_
    refine TC.block ?_
    refine TC.loop3 (fun (i : Nat) (n : Nat) (bq : Int) => [(0, .slice ad l.length c), (1, str k), (2, .int .i64 q), (7, .bool true), (8, .pointer (some ⟨Q, 0, none⟩)), (9, .int .i64 (n : Int)), (10, .int .i64 bq), (11, .pointer (some ⟨w25.heap.size, 0, none⟩)), (12, .int .i64 (i : Int))]) (fun i n bq w' => i ≤ l.length ∧ n = (En.rowL (l.take i)).length ∧ bq = En.bestQ (En.newest (En.rowL (l.take i)) k q) ∧ (∃ N, Sk w' Q hd N ∧ exs N = En.rowL (l.take i) ∧ (∀ b ∈ Q :: feet (hd :: N), w.heap.size ≤ b ∧ b ≠ w25.heap.size)) ∧ Has w' w25.heap.size (cl ((En.newest (En.rowL (l.take i)) k q).getD e0)).toArray 30 (0, 0) ∧ Ch [] w w') (fun i _ _ => l.length - i) 0 0 (-1) (by repeat (first | exact trivial | refine ⟨rfl, ?_⟩)) (⟨by omega, rfl, rfl, ⟨[], hSk0.ch0 j11, rfl, fun b hb => ⟨hQ b hb, hX b hb⟩⟩, hbs1, q25.trans0 j11⟩) (fun i n bq w' hI => ?_)
    obtain ⟨hi, hn, hbq, ⟨N, hSk, hN, hbg⟩, hfd, hch⟩ := hI
    obtain ⟨R, hR⟩ : ∃ R, En.rowL (l.take i) = R := ⟨_, rfl⟩
    have hRc : En.checkE R = 0 := by rw [← hR]; exact En.row_check _
    have hRl : R.length ≤ i := by have := En.row_len (l.take i); rw [hR, List.length_take] at this; omega
    rw [hR] at hN hn hbq hfd
    refine TC.seq ?_
    refine TC.seq ?_
    refine TC.region ?_
    refine TL.move rfl rfl ?_
    refine TL.move rfl rfl ?_
    refine TL.lenSlice Try.underlying22 rfl rfl ?_
    refine TL.lss rfl rfl rfl ?_
    refine TL.done ?_
    refine Thn.go ?_
    refine TC.condP rfl (fun h3 => ?_) (fun h3 => ?_)
    ·
      have hil : i < l.length := by omega
      obtain ⟨b1, o1, rfl, hall⟩ := recIn ha hil
      have hnx := En.row_next hil
      rw [hR] at hnx
      obtain ⟨x, hx⟩ : ∃ x, En.rec l i = x := ⟨_, rfl⟩
      rw [hx] at hall hnx
      refine TC.skip ?_
      refine Thn.go ?_
      refine TC.seq ?_
      refine TC.block ?_
      refine TC.seq ?_
      refine TC.seq ?_
      refine TC.region ?_
      refine TL.move rfl rfl ?_
      refine TL.move rfl rfl ?_
      refine TL.move rfl rfl ?_
      refine TL.indexAddr (i) sl22 rfl rfl (by first | rfl | omega) (by omega) rfl ?_
      refine TL.loadAgg (cl x) ag30 rfl rfl (fun j hj => hall _ hch j hj) rfl ?_
      refine TL.call can10 rfl rfl (fn10s Q hd N R x hN hRc w' hSk) (fun v38 w38 hr38 => ?_)
      obtain ⟨rfl, ⟨N2, hSk2, hN2, hft2⟩, hc38⟩ := hr38
      have q38 : Ch [] w w38 := hch.thenS hc38 (fun b hb => (hbg b hb).1)
      have hX38 := hfd.lt
      have hbg2 : ∀ b ∈ Q :: feet (hd :: N2), w.heap.size ≤ b ∧ b ≠ w25.heap.size := fun b hb => by
        rcases feet_put hft2 b hb with h | h
        · exact hbg b h
        · have := hch.size; exact ⟨by omega, by omega⟩
      have hfd2 := hfd.ch hc38 (fun h => (hbg _ h).2 rfl)
      refine TL.neq rfl rfl rfl ?_
      refine TL.done ?_
      refine Thn.go ?_
      refine TC.condP rfl (fun h4 => ?_) (fun h4 => ?_)
      ·
        have h0 : ¬ En.putE R x = 0 := by omega
        have hst : En.stepL R x = R := by rw [En.stepL, if_neg h0]
        refine TC.exit ?_
        refine Thn.exit ?_
        refine Blk.hit ?_
        refine Thn.go ?_
        refine TC.region ?_
        refine TL.move rfl rfl ?_
        refine TL.add_i64 rfl rfl (by omega) (by omega) rfl ?_
        refine TL.assign rfl rfl ?_
        refine TL.done ?_
        refine Lp.go ((i + 1, n, bq)) (by repeat (first | exact trivial | refine ⟨rfl, ?_⟩)) ?_ (by first | omega | (dsimp only; omega))
        exact ⟨by show i + 1 ≤ l.length; omega, by show n = (En.rowL (l.take (i + 1))).length; rw [hnx, hst]; exact hn, by show bq = En.bestQ (En.newest (En.rowL (l.take (i + 1))) k q); rw [hnx, hst]; exact hbq, ⟨N2, hSk2, by rw [hN2, hnx], hbg2⟩, by show Has w38 w25.heap.size (cl ((En.newest (En.rowL (l.take (i + 1))) k q).getD e0)).toArray 30 (0, 0); rw [hnx, hst]; exact hfd2, q38⟩
      ·
        have h0 : En.putE R x = 0 := by omega
        have hst : En.stepL R x = En.putL R x := by rw [En.stepL, if_pos h0]
        have hpl : (En.putL R x).length = R.length + 1 := by rw [(En.put_perm h0).length_eq]; simp
        have hnp := En.newest_put h0 k q
        rw [← hbq] at hnp
        refine TC.skip ?_
        refine Thn.go ?_
        refine TC.seq ?_
        refine TC.region ?_
        refine TL.move rfl rfl ?_
        refine TL.add_i64 rfl rfl (by omega) (by omega) rfl ?_
        refine TL.assign rfl rfl ?_
        refine TL.done ?_
        refine Thn.go ?_
        refine TC.regionBool (d := 66) (p := ((x.key = k ∧ x.seq ≤ q) ∧ bq < x.seq)) (fun K5 hK5 => ?_) ?_
        ·
          refine TL.move rfl rfl ?_
          refine TL.move rfl rfl ?_
          refine TL.indexAddr (i) sl22 rfl rfl (by first | rfl | omega) (by omega) rfl ?_
          refine TL.fieldAddr fd30k0 rfl rfl ?_
          refine TL.load pl9 rfl ((show _ = some (str x.key) from hall _ q38 0 (by decide))) rfl ?_
          refine TL.move rfl rfl ?_
          refine TL.eqlStr rfl rfl rfl ?_
          refine TL.em (fun e48 => ?_) (fun e48 => ?_)
          ·
            refine TL.move rfl rfl ?_
            refine TL.guardYes (d := 49) rfl rfl rfl ?_
            refine TL.move rfl rfl ?_
            refine TL.guardYes (d := 49) rfl rfl rfl ?_
            refine TL.move rfl rfl ?_
            refine TL.guardYes (d := 49) rfl rfl rfl ?_
            refine TL.indexAddr (i) sl22 rfl rfl (by first | rfl | omega) (by omega) rfl ?_
            refine TL.guardYes (d := 49) rfl rfl rfl ?_
            refine TL.fieldAddr fd30k2 rfl rfl ?_
            refine TL.guardYes (d := 49) rfl rfl rfl ?_
            refine TL.load pl3 rfl ((show _ = some (Value.int .i64 x.seq) from hall _ q38 2 (by decide))) rfl ?_
            refine TL.guardYes (d := 49) rfl rfl rfl ?_
            refine TL.move rfl rfl ?_
            refine TL.guardYes (d := 49) rfl rfl rfl ?_
            refine TL.leq rfl rfl rfl ?_
            refine TL.em (fun e56 => ?_) (fun e56 => ?_)
            ·
              refine TL.pickT rfl rfl rfl rfl ?_
              refine TL.move rfl rfl ?_
              refine TL.guardYes (d := 58) rfl rfl rfl ?_
              refine TL.move rfl rfl ?_
              refine TL.guardYes (d := 58) rfl rfl rfl ?_
              refine TL.move rfl rfl ?_
              refine TL.guardYes (d := 58) rfl rfl rfl ?_
              refine TL.indexAddr (i) sl22 rfl rfl (by first | rfl | omega) (by omega) rfl ?_
              refine TL.guardYes (d := 58) rfl rfl rfl ?_
              refine TL.fieldAddr fd30k2 rfl rfl ?_
              refine TL.guardYes (d := 58) rfl rfl rfl ?_
              refine TL.load pl3 rfl ((show _ = some (Value.int .i64 x.seq) from hall _ q38 2 (by decide))) rfl ?_
              refine TL.guardYes (d := 58) rfl rfl rfl ?_
              refine TL.move rfl rfl ?_
              refine TL.guardYes (d := 58) rfl rfl rfl ?_
              refine TL.gtr rfl rfl rfl ?_
              refine TL.pickT rfl rfl rfl rfl ?_
              refine TL.done ?_
              refine hK5 _ ?_
              refine Le.here rfl (by first | exact decide_eq_true (by omega) | exact decide_eq_false (by omega) | exact decide_eq_decide.2 (by omega) | exact decide_eq_true (by grind) | exact decide_eq_false (by grind) | exact decide_eq_decide.2 (by grind)) ?_
              repeat (first | exact Le.refl _ | refine Le.skip rfl ?_)
            ·
              refine TL.pickT rfl rfl rfl rfl ?_
              refine TL.move rfl rfl ?_
              refine TL.guardNo (d := 58) rfl rfl rfl rfl rfl ?_
              refine TL.guardNo (d := 58) rfl rfl rfl rfl rfl ?_
              refine TL.guardNo (d := 58) rfl rfl rfl rfl rfl ?_
              refine TL.guardNo (d := 58) rfl rfl rfl rfl rfl ?_
              refine TL.guardNo (d := 58) rfl rfl rfl rfl rfl ?_
              refine TL.guardNo (d := 58) rfl rfl rfl rfl rfl ?_
              refine TL.guardNo (d := 58) rfl rfl rfl rfl rfl ?_
              refine TL.pickF rfl rfl rfl rfl ?_
              refine TL.done ?_
              refine hK5 _ ?_
              refine Le.here rfl (by first | exact decide_eq_true (by omega) | exact decide_eq_false (by omega) | exact decide_eq_decide.2 (by omega) | exact decide_eq_true (by grind) | exact decide_eq_false (by grind) | exact decide_eq_decide.2 (by grind)) ?_
              repeat (first | exact Le.refl _ | refine Le.skip rfl ?_)
          ·
            refine TL.move rfl rfl ?_
            refine TL.guardNo (d := 49) rfl rfl rfl rfl rfl ?_
            refine TL.guardNo (d := 49) rfl rfl rfl rfl rfl ?_
            refine TL.guardNo (d := 49) rfl rfl rfl rfl rfl ?_
            refine TL.guardNo (d := 49) rfl rfl rfl rfl rfl ?_
            refine TL.guardNo (d := 49) rfl rfl rfl rfl rfl ?_
            refine TL.guardNo (d := 49) rfl rfl rfl rfl rfl ?_
            refine TL.guardNo (d := 49) rfl rfl rfl rfl rfl ?_
            refine TL.pickF rfl rfl rfl rfl ?_
            refine TL.move rfl rfl ?_
            refine TL.guardNo (d := 58) rfl rfl rfl rfl rfl ?_
            refine TL.guardNo (d := 58) rfl rfl rfl rfl rfl ?_
            refine TL.guardNo (d := 58) rfl rfl rfl rfl rfl ?_
            refine TL.guardNo (d := 58) rfl rfl rfl rfl rfl ?_
            refine TL.guardNo (d := 58) rfl rfl rfl rfl rfl ?_
            refine TL.guardNo (d := 58) rfl rfl rfl rfl rfl ?_
            refine TL.guardNo (d := 58) rfl rfl rfl rfl rfl ?_
            refine TL.pickF rfl rfl rfl rfl ?_
            refine TL.done ?_
            refine hK5 _ ?_
            refine Le.here rfl (by first | exact decide_eq_true (by omega) | exact decide_eq_false (by omega) | exact decide_eq_decide.2 (by omega) | exact decide_eq_true (by grind) | exact decide_eq_false (by grind) | exact decide_eq_decide.2 (by grind)) ?_
            repeat (first | exact Le.refl _ | refine Le.skip rfl ?_)
        refine TC.condP rfl (fun h8 => ?_) (fun h8 => ?_)
        ·
          rw [if_pos (show En.hit x k q ∧ bq < x.seq by assumption)] at hnp
          refine TC.regionTail 10 mixed0 (by kernel_rfl) ?_
          refine TS.via rfl rfl rfl rfl (TL.move rfl rfl (TL.done ⟨rfl, rfl⟩)) ?_
          refine TS.via rfl rfl rfl rfl (TL.move rfl rfl (TL.done ⟨rfl, rfl⟩)) ?_
          refine TS.via rfl rfl rfl rfl (TL.indexAddr (i) sl22 rfl rfl (by first | rfl | omega) (by omega) rfl (TL.done ⟨rfl, rfl⟩)) ?_
          refine TS.via rfl rfl rfl rfl (TL.fieldAddr fd30k2 rfl rfl (TL.done ⟨rfl, rfl⟩)) ?_
          refine TS.via rfl rfl rfl rfl (TL.load pl3 rfl ((show _ = some (Value.int .i64 x.seq) from hall _ (q38.trans0 (Ch.drew [] _)) 2 (by decide))) rfl (TL.done ⟨rfl, rfl⟩)) ?_
          refine TS.via rfl rfl rfl rfl (TL.move rfl rfl (TL.done ⟨rfl, rfl⟩)) ?_
          refine TS.via rfl rfl rfl rfl (TL.move rfl rfl (TL.done ⟨rfl, rfl⟩)) ?_
          refine TS.via rfl rfl rfl rfl (TL.indexAddr (i) sl22 rfl rfl (by first | rfl | omega) (by omega) rfl (TL.done ⟨rfl, rfl⟩)) ?_
          refine TS.via rfl rfl rfl rfl (TL.loadAgg (cl x) ag30 rfl rfl (fun j hj => hall _ (q38.trans0 (Ch.drew [] _)) j hj) rfl (TL.done ⟨rfl, rfl⟩)) ?_
          refine TS.via rfl rfl rfl rfl (TL.assign rfl rfl (TL.done ⟨rfl, rfl⟩)) ?_
          refine TS.done ?_
          refine TL.store sz30 rfl rfl rfl (hfd2.ch0 (Ch.drew [] _)) (by simp [cl_len]) (by simpa [Value.cells] using cl_one x) (.inl rfl) (fun ws2 hbs2 hcs2 hzs2 => ?_)
          replace hbs2 : Has ws2 w25.heap.size (cl x).toArray 30 (0, 0) := hbs2.setAll rfl
          have hcx : Ch [w25.heap.size] w38 ws2 := (Ch.drew [w25.heap.size] w38).trans hcs2 (fun x h _ => h) (fun x h _ => h)
          refine TL.done ?_
          refine Blk.go ?_
          refine Thn.go ?_
          refine TC.region ?_
          refine TL.move rfl rfl ?_
          refine TL.add_i64 rfl rfl (by omega) (by omega) rfl ?_
          refine TL.assign rfl rfl ?_
          refine TL.done ?_
          refine Lp.go ((i + 1, n + 1, x.seq)) (by repeat (first | exact trivial | refine ⟨rfl, ?_⟩)) ?_ (by first | omega | (dsimp only; omega))
          exact ⟨by show i + 1 ≤ l.length; omega, by show n + 1 = (En.rowL (l.take (i + 1))).length; rw [hnx, hst, hpl]; omega, by show x.seq = En.bestQ (En.newest (En.rowL (l.take (i + 1))) k q); rw [hnx, hst, hnp]; rfl, ⟨N2, hSk2.ch hcx (fun b hb hm => (hbg2 b hb).2 (by simpa using hm)), by rw [hN2, hnx], hbg2⟩, by show Has ws2 w25.heap.size (cl ((En.newest (En.rowL (l.take (i + 1))) k q).getD e0)).toArray 30 (0, 0); rw [hnx, hst, hnp]; exact hbs2, q38.thenS hcx (fun b hb => by simp at hb; omega)⟩
        ·
          rw [if_neg (show ¬ (En.hit x k q ∧ bq < x.seq) by assumption)] at hnp
          refine TC.skip ?_
          refine Blk.go ?_
          refine Thn.go ?_
          refine TC.region ?_
          refine TL.move rfl rfl ?_
          refine TL.add_i64 rfl rfl (by omega) (by omega) rfl ?_
          refine TL.assign rfl rfl ?_
          refine TL.done ?_
          refine Lp.go ((i + 1, n + 1, bq)) (by repeat (first | exact trivial | refine ⟨rfl, ?_⟩)) ?_ (by first | omega | (dsimp only; omega))
          exact ⟨by show i + 1 ≤ l.length; omega, by show n + 1 = (En.rowL (l.take (i + 1))).length; rw [hnx, hst, hpl]; omega, by show bq = En.bestQ (En.newest (En.rowL (l.take (i + 1))) k q); rw [hnx, hst, hnp]; exact hbq, ⟨N2, hSk2, by rw [hN2, hnx], hbg2⟩, by show Has w38 w25.heap.size (cl ((En.newest (En.rowL (l.take (i + 1))) k q).getD e0)).toArray 30 (0, 0); rw [hnx, hst, hnp]; exact hfd2, q38⟩
    ·
      have hil : i = l.length := by omega
      refine TC.exit ?_
      refine Thn.exit ?_
      refine Lp.exit ?_
      refine Blk.hit ?_
      refine Thn.go ?_
      refine TC.seq ?_
      refine TC.region ?_
      refine TL.move rfl rfl ?_
      refine TL.call can14 rfl rfl (fn14 Q hd N (by rw [← exs_len, hN]; omega) w' hSk) (fun v78 w78 hr78 => ?_)
      rw [hN] at hr78
      obtain ⟨o78, rfl, hv78, hc78⟩ := hr78
      obtain ⟨d78, p78, rfl⟩ := hv78.shape
      refine TL.move rfl rfl ?_
      refine TL.extract rfl rfl rfl ?_
      refine TL.extract rfl rfl rfl ?_
      refine TL.assign rfl rfl ?_
      refine TL.assign rfl rfl ?_
      refine TL.done ?_
      refine Thn.go ?_
      refine TC.seq ?_
      refine TC.seq ?_
      refine TC.region ?_
      refine TL.move rfl rfl ?_
      refine TL.neq rfl rfl rfl ?_
      refine TL.no (by simp) ?_
      refine TL.move rfl rfl ?_
      refine TL.guardYes (d := 83) rfl rfl rfl ?_
      refine TL.move rfl rfl ?_
      refine TL.guardYes (d := 83) rfl rfl rfl ?_
      refine TL.lenSlice Try.underlying22 rfl rfl ?_
      refine TL.guardYes (d := 83) rfl rfl rfl ?_
      refine TL.move rfl rfl ?_
      refine TL.guardYes (d := 83) rfl rfl rfl ?_
      refine TL.neq rfl rfl rfl ?_
      refine TL.no (fun h => h (by omega)) ?_
      refine TL.pickF rfl rfl rfl rfl ?_
      refine TL.move rfl rfl ?_
      refine TL.guardYes (d := 89) rfl rfl rfl ?_
      refine TL.move rfl rfl ?_
      refine TL.guardYes (d := 89) rfl rfl rfl ?_
      refine TL.call can23 rfl rfl (fn23 _ R w78 (Rd.ofOwn hv78)) (fun v91 w91 hr91 => ?_)
      rw [hRc] at hr91
      obtain ⟨rfl, hc91⟩ := hr91
      refine TL.guardYes (d := 89) rfl rfl rfl ?_
      refine TL.neq rfl rfl rfl ?_
      refine TL.no (by simp) ?_
      refine TL.pickF rfl rfl rfl rfl ?_
      refine TL.done ?_
      refine Thn.go ?_
      refine TC.condF rfl rfl ?_
      refine TC.skip ?_
      refine Thn.go ?_
      refine TC.seq ?_
      refine TC.region ?_
      refine TL.move rfl rfl ?_
      refine TL.move rfl rfl ?_
      refine TL.move rfl rfl ?_
      refine TL.call can12 rfl rfl (fn12 Q hd N k q (by rw [hN]; exact hRc) w91 ((hSk.ch0 hc78).ch0 hc91)) (fun v98 w98 hr98 => ?_)
      rw [hN] at hr98
      obtain ⟨rfl, hc98⟩ := hr98
      obtain ⟨y, hy⟩ : ∃ y, (En.findX R k q).getD e0 = y := ⟨_, rfl⟩
      rw [hy]
      refine TL.move rfl rfl ?_
      refine TL.extract rfl rfl rfl ?_
      refine TL.extract rfl rfl rfl ?_
      refine TL.extract rfl rfl rfl ?_
      refine TL.alloc ze30 rfl (fun w15 hb15 hc15 hz15 => ?_)
      refine TL.store sz30 rfl rfl rfl hb15 (by simp [Value.cells]) (by simpa [Value.cells] using cl_one y) (.inl rfl) (fun ws3 hbs3 hcs3 hzs3 => ?_)
      replace hbs3 : Has ws3 w98.heap.size (cl y).toArray 30 (0, 0) := hbs3.setAll rfl
      have k15 : Ch [] w' ws3 := hc78.trans0 (hc91.trans0 (hc98.trans0 (hc15.then1 hcs3 (Nat.le_refl _))))
      refine TL.assign rfl rfl ?_
      refine TL.assign rfl rfl ?_
      refine TL.done ?_
      refine Thn.go ?_
      refine TC.seq ?_
      refine TC.seq ?_
      refine TC.region ?_
      refine TL.move rfl rfl ?_
      refine TL.neq rfl rfl rfl ?_
      refine TL.done ?_
      refine Thn.go ?_
      refine TC.condP rfl (fun h10 => ?_) (fun h10 => ?_)
      ·
        have hak : En.askE k q ≠ 0 := fun h => by have := (En.find_ok hRc h).1; omega
        rw [(En.find_ask hRc hak).2]
        have hbad : (k.length < 1 ∨ 256 < k.length) ∨ q < 0 ∨ 2147483647 < q := Decidable.not_not.1 (fun h => hak (En.ask_ok (fun h2 => h (.inl h2)) (fun h2 => h (.inr h2))))
        refine TC.regionBool (d := 6) (p := True) (fun K11 hK11 => ?_) ?_
        ·
          refine TL.move rfl rfl ?_
          refine TL.move rfl rfl ?_
          refine TL.guardYes (d := 105) rfl rfl rfl ?_
          refine TL.move rfl rfl ?_
          refine TL.guardYes (d := 105) rfl rfl rfl ?_
          refine TL.not rfl rfl ?_
          refine TL.pickT rfl rfl rfl rfl ?_
          refine TL.move rfl rfl ?_
          refine TL.guardYes (d := 109) rfl rfl rfl ?_
          refine TL.move rfl rfl ?_
          refine TL.guardYes (d := 109) rfl rfl rfl ?_
          refine TL.eqlStr rfl rfl rfl ?_
          refine TL.em (fun e111 => ?_) (fun e111 => ?_)
          ·
            refine TL.guardYes (d := 109) rfl rfl rfl ?_
            refine TL.move rfl rfl ?_
            refine TL.guardNo (d := 112) rfl rfl rfl rfl rfl ?_
            refine TL.guardNo (d := 112) rfl rfl rfl rfl rfl ?_
            refine TL.guardNo (d := 112) rfl rfl rfl rfl rfl ?_
            refine TL.guardYes (d := 109) rfl rfl rfl ?_
            refine TL.pickT rfl rfl rfl rfl ?_
            refine TL.guardYes (d := 109) rfl rfl rfl ?_
            refine TL.move rfl rfl ?_
            refine TL.guardNo (d := 117) rfl rfl rfl rfl rfl ?_
            refine TL.guardNo (d := 117) rfl rfl rfl rfl rfl ?_
            refine TL.guardYes (d := 109) rfl rfl rfl ?_
            refine TL.pickT rfl rfl rfl rfl ?_
            refine TL.guardYes (d := 109) rfl rfl rfl ?_
            refine TL.move rfl rfl ?_
            refine TL.guardNo (d := 121) rfl rfl rfl rfl rfl ?_
            refine TL.guardNo (d := 121) rfl rfl rfl rfl rfl ?_
            refine TL.guardYes (d := 109) rfl rfl rfl ?_
            refine TL.pickT rfl rfl rfl rfl ?_
            refine TL.pickT rfl rfl rfl rfl ?_
            refine TL.assign rfl rfl ?_
            refine TL.done ?_
            refine hK11 _ ?_
            refine Le.here rfl (by first | exact decide_eq_true (by omega) | exact decide_eq_false (by omega) | exact decide_eq_decide.2 (by omega) | exact decide_eq_true (by grind) | exact decide_eq_false (by grind) | exact decide_eq_decide.2 (by grind)) ?_
            repeat (first | exact Le.refl _ | refine Le.skip rfl ?_)
          ·
            refine TL.guardYes (d := 109) rfl rfl rfl ?_
            refine TL.move rfl rfl ?_
            refine TL.guardYes (d := 112) rfl rfl rfl ?_
            refine TL.move rfl rfl ?_
            refine TL.guardYes (d := 112) rfl rfl rfl ?_
            refine TL.lenStr Try.underlying9 rfl rfl ?_
            refine TL.guardYes (d := 112) rfl rfl rfl ?_
            refine TL.gtr rfl rfl rfl ?_
            refine TL.em (fun e115 => ?_) (fun e115 => ?_)
            ·
              refine TL.guardYes (d := 109) rfl rfl rfl ?_
              refine TL.pickF rfl rfl rfl rfl ?_
              refine TL.guardYes (d := 109) rfl rfl rfl ?_
              refine TL.move rfl rfl ?_
              refine TL.guardNo (d := 117) rfl rfl rfl rfl rfl ?_
              refine TL.guardNo (d := 117) rfl rfl rfl rfl rfl ?_
              refine TL.guardYes (d := 109) rfl rfl rfl ?_
              refine TL.pickT rfl rfl rfl rfl ?_
              refine TL.guardYes (d := 109) rfl rfl rfl ?_
              refine TL.move rfl rfl ?_
              refine TL.guardNo (d := 121) rfl rfl rfl rfl rfl ?_
              refine TL.guardNo (d := 121) rfl rfl rfl rfl rfl ?_
              refine TL.guardYes (d := 109) rfl rfl rfl ?_
              refine TL.pickT rfl rfl rfl rfl ?_
              refine TL.pickT rfl rfl rfl rfl ?_
              refine TL.assign rfl rfl ?_
              refine TL.done ?_
              refine hK11 _ ?_
              refine Le.here rfl (by first | exact decide_eq_true (by omega) | exact decide_eq_false (by omega) | exact decide_eq_decide.2 (by omega) | exact decide_eq_true (by grind) | exact decide_eq_false (by grind) | exact decide_eq_decide.2 (by grind)) ?_
              repeat (first | exact Le.refl _ | refine Le.skip rfl ?_)
            ·
              refine TL.guardYes (d := 109) rfl rfl rfl ?_
              refine TL.pickF rfl rfl rfl rfl ?_
              refine TL.guardYes (d := 109) rfl rfl rfl ?_
              refine TL.move rfl rfl ?_
              refine TL.guardYes (d := 117) rfl rfl rfl ?_
              refine TL.move rfl rfl ?_
              refine TL.guardYes (d := 117) rfl rfl rfl ?_
              refine TL.lss rfl rfl rfl ?_
              refine TL.em (fun e119 => ?_) (fun e119 => ?_)
              ·
                refine TL.guardYes (d := 109) rfl rfl rfl ?_
                refine TL.pickF rfl rfl rfl rfl ?_
                refine TL.guardYes (d := 109) rfl rfl rfl ?_
                refine TL.move rfl rfl ?_
                refine TL.guardNo (d := 121) rfl rfl rfl rfl rfl ?_
                refine TL.guardNo (d := 121) rfl rfl rfl rfl rfl ?_
                refine TL.guardYes (d := 109) rfl rfl rfl ?_
                refine TL.pickT rfl rfl rfl rfl ?_
                refine TL.pickT rfl rfl rfl rfl ?_
                refine TL.assign rfl rfl ?_
                refine TL.done ?_
                refine hK11 _ ?_
                refine Le.here rfl (by first | exact decide_eq_true (by omega) | exact decide_eq_false (by omega) | exact decide_eq_decide.2 (by omega) | exact decide_eq_true (by grind) | exact decide_eq_false (by grind) | exact decide_eq_decide.2 (by grind)) ?_
                repeat (first | exact Le.refl _ | refine Le.skip rfl ?_)
              ·
                refine TL.guardYes (d := 109) rfl rfl rfl ?_
                refine TL.pickF rfl rfl rfl rfl ?_
                refine TL.guardYes (d := 109) rfl rfl rfl ?_
                refine TL.move rfl rfl ?_
                refine TL.guardYes (d := 121) rfl rfl rfl ?_
                refine TL.move rfl rfl ?_
                refine TL.guardYes (d := 121) rfl rfl rfl ?_
                refine TL.gtr rfl rfl rfl ?_
                refine TL.guardYes (d := 109) rfl rfl rfl ?_
                refine TL.pickF rfl rfl rfl rfl ?_
                refine TL.pickT rfl rfl rfl rfl ?_
                refine TL.assign rfl rfl ?_
                refine TL.done ?_
                refine hK11 _ ?_
                refine Le.here rfl (by first | exact decide_eq_true (by omega) | exact decide_eq_false (by omega) | exact decide_eq_decide.2 (by omega) | exact decide_eq_true (by grind) | exact decide_eq_false (by grind) | exact decide_eq_decide.2 (by grind)) ?_
                repeat (first | exact Le.refl _ | refine Le.skip rfl ?_)
        refine TC.ret ?_
        refine Thn.ret ?_
        refine Ends.ret [6] rfl rfl ?_
        exact ⟨rfl, hch.trans0 k15⟩
      ·
        have hak : En.askE k q = 0 := Decidable.not_not.1 (fun h => by have := (En.find_ask hRc h).1; omega)
        have hfx := (En.find_ok hRc hak).2
        have hbg3 := En.best_ge hRc k q
        rw [← hbq] at hbg3
        rw [hfx] at hy ⊢
        rw [hy] at hfd
        refine TC.skip ?_
        refine Thn.go ?_
        refine TC.seq ?_
        refine TC.region ?_
        refine TL.move rfl rfl ?_
        refine TL.move rfl rfl ?_
        refine TL.guardYes (d := 127) rfl rfl rfl ?_
        refine TL.move rfl rfl ?_
        refine TL.guardYes (d := 127) rfl rfl rfl ?_
        refine TL.move rfl rfl ?_
        refine TL.guardYes (d := 127) rfl rfl rfl ?_
        refine TL.geq rfl rfl rfl ?_
        refine TL.guardYes (d := 127) rfl rfl rfl ?_
        refine TL.eqlBool Try.underlying4 rfl rfl rfl ?_
        refine TL.yes (by rw [hbg3]) ?_
        refine TL.pickT rfl rfl rfl rfl ?_
        refine TL.move rfl rfl ?_
        refine TL.guardYes (d := 133) rfl rfl rfl ?_
        refine TL.loadAgg (cl y) ag30 rfl rfl (fun j _ => by rw [hbs3.cell, Nat.zero_add, List.getElem?_toArray]) rfl ?_
        refine TL.guardYes (d := 133) rfl rfl rfl ?_
        refine TL.loadAgg (cl y) ag30 rfl rfl (fun j _ => by rw [(hfd.ch0 k15).cell, Nat.zero_add, List.getElem?_toArray]) rfl ?_
        refine TL.guardYes (d := 133) rfl rfl rfl ?_
        refine TL.eqlAgg gd30 (eqEntry y y _) rfl rfl rfl ?_
        refine TL.pickT rfl rfl rfl rfl ?_
        refine TL.assign rfl rfl ?_
        refine TL.done ?_
        refine Thn.go ?_
        refine TC.ret ?_
        refine Ends.ret [6] rfl rfl ?_
        exact ⟨by first | rfl | (simp; rfl), hch.trans0 k15⟩

