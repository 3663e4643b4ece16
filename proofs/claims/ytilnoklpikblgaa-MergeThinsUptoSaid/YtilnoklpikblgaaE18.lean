/-
  Walks through the given program: each theorem fnN says what the call of function N of the translation hands back, for all arguments that its premises describe, and that nothing that was there has turned.
-/
import Derived.Test.YtilnoklpikblgaaE17
namespace Go.Proofs.Ytilnoklpikblgaa
open Go.Lane
theorem can22 : Callable Try.prog 22 := ⟨Try.f22, Try.func22, by kernel_rfl, rfl⟩

theorem fn7 (av : Value) (Ls : List Row) (q : Int) (k : List UInt8) (w : World) (ha : Rd w av 1 Ls.length (vals Ls)) (hr : ∀ p ∈ Ls, Rd w p.1 4 p.2.length (p.2.flatMap cl)) (hsum : (Ls.map (·.2)).flatten.length ≤ 2000000) : Rets Try.prog 7 #[av, .int .i64 q, str k] w (fun r w' => r = .bool true ∧ Ch [] w w') := by
  obtain ⟨ad, c, rfl, _⟩ := ha.shape
  have hmm : maxLen = 9223372036854775807 := rfl
  obtain ⟨D, hD⟩ : ∃ D, Ls.map (·.2) = D := ⟨_, rfl⟩
  refine Rets.of (n := 151) (vs := [_, _, _]) Try.func7 rfl rfl rfl ?_
  refine TC.seq ?_
  refine TC.region ?_
  refine TL.assign rfl rfl ?_
  refine TL.done ?_
  refine Thn.go ?_
  refine TC.seq ?_
  refine TC.region ?_
  refine TL.call can10 rfl rfl (fn10 w) (fun v22 w22 hr22 => ?_)
  obtain ⟨rfl, hc22⟩ := hr22
  refine TL.assign rfl rfl ?_
  refine TL.done ?_
  refine Thn.go ?_
  refine TC.seq ?_
  refine TC.seq ?_
  refine TC.region ?_
  refine TL.move rfl rfl ?_
  refine TL.not rfl rfl ?_
  refine TL.done ?_
  refine Thn.go ?_
  refine TC.condF rfl rfl ?_
  refine TC.skip ?_
  refine Thn.go ?_
  refine TC.seq ?_
  refine TC.cut0 ([(0, .slice ad Ls.length c), (1, .int .i64 q), (2, str k), (7, .bool true), (31, .bool (decide (En.heavyP D ∨ 10000 < k.length)))]) (fun w3 => Ch [] w w3) (fun K2 hK2 => ?_) (fun w3 hH => ?_)
  ·
    refine TC.region ?_
    refine TL.move rfl rfl ?_
    refine TL.call can11 rfl rfl (fn11 _ Ls w22 (ha.ch0 hc22) (fun p hp => (hr p hp).ch0 hc22) hsum) (fun v26 w26 hr26 => ?_)
    rw [hD] at hr26
    obtain ⟨rfl, hc26⟩ := hr26
    refine TL.em (fun e26 => ?_) (fun e26 => ?_)
    ·
      refine TL.move rfl rfl ?_
      refine TL.guardNo (d := 27) rfl rfl rfl rfl rfl ?_
      refine TL.guardNo (d := 27) rfl rfl rfl rfl rfl ?_
      refine TL.guardNo (d := 27) rfl rfl rfl rfl rfl ?_
      refine TL.pickT rfl rfl rfl rfl ?_
      refine TL.done ?_
      exact hK2  _ _ (by repeat (first | exact trivial | refine ⟨rfl, ?_⟩ | refine ⟨congrArg (fun b => some (Value.bool b)) (by first | exact (decide_eq_true (by grind)).symm | exact (decide_eq_false (by grind)).symm | exact decide_eq_decide.2 (by grind) | exact decide_eq_true (by grind) | exact decide_eq_false (by grind) | (exfalso; grind)), ?_⟩)) (hc22.trans0 hc26)
    ·
      refine TL.move rfl rfl ?_
      refine TL.guardYes (d := 27) rfl rfl rfl ?_
      refine TL.move rfl rfl ?_
      refine TL.guardYes (d := 27) rfl rfl rfl ?_
      refine TL.lenStr Try.underlying9 rfl rfl ?_
      refine TL.guardYes (d := 27) rfl rfl rfl ?_
      refine TL.gtr rfl rfl rfl ?_
      refine TL.pickF rfl rfl rfl rfl ?_
      refine TL.done ?_
      exact hK2  _ _ (by repeat (first | exact trivial | refine ⟨rfl, ?_⟩ | refine ⟨congrArg (fun b => some (Value.bool b)) (by first | exact (decide_eq_true (by grind)).symm | exact (decide_eq_false (by grind)).symm | exact decide_eq_decide.2 (by grind) | exact decide_eq_true (by grind) | exact decide_eq_false (by grind) | (exfalso; grind)), ?_⟩)) (hc22.trans0 hc26)
  ·
    refine TC.condP rfl (fun h4 => ?_) (fun h4 => ?_)
    ·
      refine TC.seq ?_
      refine TC.region ?_
      refine TL.move rfl rfl ?_
      refine TL.assign rfl rfl ?_
      refine TL.done ?_
      refine Thn.go ?_
      refine TC.ret ?_
      refine Thn.ret ?_
      refine Ends.ret [6] rfl rfl ?_
      exact ⟨rfl, hH⟩
    ·
      have hno : ¬ (En.heavyP D ∨ 10000 < k.length) := by assumption
      refine TC.skip ?_
      refine Thn.go ?_
      refine TC.seq ?_
      refine TC.region ?_
      refine TL.move rfl rfl ?_
      refine TL.move rfl rfl ?_
      refine TL.call can17 rfl rfl (fn17 _ Ls q w3 (ha.ch0 hH) (fun p hp => (hr p hp).ch0 hH) hsum) (fun v36 w36 hr36 => ?_)
      rw [hD] at hr36
      obtain ⟨o36, rfl, hv36, hc36⟩ := hr36
      refine TL.move rfl rfl ?_
      refine TL.extract rfl rfl rfl ?_
      refine TL.extract rfl rfl rfl ?_
      refine TL.assign rfl rfl ?_
      refine TL.assign rfl rfl ?_
      refine TL.done ?_
      refine Thn.go ?_
      refine TC.seq ?_
      refine TC.region ?_
      refine TL.move rfl rfl ?_
      refine TL.move rfl rfl ?_
      refine TL.move rfl rfl ?_
      refine TL.call can22 rfl rfl (fn22 _ Ls q k w36 ((ha.ch0 hH).ch0 hc36) (fun p hp => ((hr p hp).ch0 hH).ch0 hc36) hsum) (fun v43 w43 hr43 => ?_)
      rw [hD] at hr43
      obtain ⟨⟨pa, rfl, hpn, hps⟩, hc43⟩ := hr43
      have hfact := En.new_fact D q k
      refine TL.move rfl rfl ?_
      refine TL.extract rfl rfl rfl ?_
      refine TL.extract rfl rfl rfl ?_
      refine TL.assign rfl rfl ?_
      refine TL.assign rfl rfl ?_
      refine TL.done ?_
      refine Thn.go ?_
      refine TC.seq ?_
      refine TC.regionBool (d := 51) (p := (¬ En.newE D q k = 0)) (fun K5 hK5 => ?_) ?_
      ·
        refine TL.move rfl rfl ?_
        refine TL.neq rfl rfl rfl ?_
        refine TL.em (fun e47 => ?_) (fun e47 => ?_)
        ·
          refine TL.move rfl rfl ?_
          refine TL.guardNo (d := 48) rfl rfl rfl rfl rfl ?_
          refine TL.guardNo (d := 48) rfl rfl rfl rfl rfl ?_
          refine TL.pickT rfl rfl rfl rfl ?_
          refine TL.done ?_
          refine hK5 _ ?_
          refine Le.here rfl (by first | exact decide_eq_true (by omega) | exact decide_eq_false (by omega) | exact decide_eq_decide.2 (by omega) | exact decide_eq_true (by grind) | exact decide_eq_false (by grind) | exact decide_eq_decide.2 (by grind)) ?_
          repeat (first | exact Le.refl _ | refine Le.skip rfl ?_)
        ·
          obtain ⟨H, cv, rfl, hHge, hHH, hHr, hHb⟩ := hps (by omega)
          refine TL.move rfl rfl ?_
          refine TL.guardYes (d := 48) rfl rfl rfl ?_
          refine TL.move rfl rfl ?_
          refine TL.guardYes (d := 48) rfl rfl rfl ?_
          refine TL.eqlPtrNil Try.underlying43 rfl rfl rfl ?_
          refine TL.no (by simp) ?_
          refine TL.pickF rfl rfl rfl rfl ?_
          refine TL.done ?_
          refine hK5 _ ?_
          refine Le.here rfl (by first | exact decide_eq_true (by omega) | exact decide_eq_false (by omega) | exact decide_eq_decide.2 (by omega) | exact decide_eq_true (by grind) | exact decide_eq_false (by grind) | exact decide_eq_decide.2 (by grind)) ?_
          repeat (first | exact Le.refl _ | refine Le.skip rfl ?_)
      refine TC.condP rfl (fun h7 => ?_) (fun h7 => ?_)
      ·
        obtain rfl := hpn (by assumption)
        refine TC.regionBool (d := 6) (p := True) (fun K8 hK8 => ?_) ?_
        ·
          refine TL.move rfl rfl ?_
          refine TL.move rfl rfl ?_
          refine TL.guardYes (d := 53) rfl rfl rfl ?_
          refine TL.move rfl rfl ?_
          refine TL.guardYes (d := 53) rfl rfl rfl ?_
          refine TL.eqlPtrNil Try.underlying43 rfl rfl rfl ?_
          refine TL.yes (rfl) ?_
          refine TL.pickT rfl rfl rfl rfl ?_
          refine TL.move rfl rfl ?_
          refine TL.guardYes (d := 57) rfl rfl rfl ?_
          refine TL.move rfl rfl ?_
          refine TL.guardYes (d := 57) rfl rfl rfl ?_
          refine TL.move rfl rfl ?_
          refine TL.guardYes (d := 57) rfl rfl rfl ?_
          refine TL.eql rfl rfl rfl ?_
          refine TL.em (fun e60 => ?_) (fun e60 => ?_)
          ·
            refine TL.guardYes (d := 57) rfl rfl rfl ?_
            refine TL.move rfl rfl ?_
            refine TL.guardNo (d := 61) rfl rfl rfl rfl rfl ?_
            refine TL.guardNo (d := 61) rfl rfl rfl rfl rfl ?_
            refine TL.guardNo (d := 61) rfl rfl rfl rfl rfl ?_
            refine TL.guardUndef (d := 64) rfl rfl rfl rfl ?_
            refine TL.guardUndef (d := 64) rfl rfl rfl rfl ?_
            refine TL.guardNo (d := 61) rfl rfl rfl rfl rfl ?_
            refine TL.guardNo (d := 61) rfl rfl rfl rfl rfl ?_
            refine TL.guardUndef (d := 68) rfl rfl rfl rfl ?_
            refine TL.guardUndef (d := 68) rfl rfl rfl rfl ?_
            refine TL.guardUndef (d := 68) rfl rfl rfl rfl ?_
            refine TL.guardNo (d := 61) rfl rfl rfl rfl rfl ?_
            refine TL.guardYes (d := 57) rfl rfl rfl ?_
            refine TL.pickT rfl rfl rfl rfl ?_
            refine TL.pickT rfl rfl rfl rfl ?_
            refine TL.assign rfl rfl ?_
            refine TL.done ?_
            refine hK8 _ ?_
            refine Le.here rfl (by first | exact decide_eq_true (by omega) | exact decide_eq_false (by omega) | exact decide_eq_decide.2 (by omega) | exact decide_eq_true (by grind) | exact decide_eq_false (by grind) | exact decide_eq_decide.2 (by grind)) ?_
            repeat (first | exact Le.refl _ | refine Le.skip rfl ?_)
          ·
            refine TL.guardYes (d := 57) rfl rfl rfl ?_
            refine TL.move rfl rfl ?_
            refine TL.guardYes (d := 61) rfl rfl rfl ?_
            refine TL.move rfl rfl ?_
            refine TL.guardYes (d := 61) rfl rfl rfl ?_
            refine TL.eql rfl rfl rfl ?_
            refine TL.em (fun e63 => ?_) (fun e63 => ?_)
            ·
              refine TL.guardYes (d := 61) rfl rfl rfl ?_
              refine TL.move rfl rfl ?_
              refine TL.guardYes (d := 64) rfl rfl rfl ?_
              refine TL.move rfl rfl ?_
              refine TL.guardYes (d := 64) rfl rfl rfl ?_
              refine TL.eql rfl rfl rfl ?_
              refine TL.em (fun e66 => ?_) (fun e66 => ?_)
              ·
                refine TL.guardYes (d := 61) rfl rfl rfl ?_
                refine TL.pickT rfl rfl rfl rfl ?_
                refine TL.guardYes (d := 61) rfl rfl rfl ?_
                refine TL.move rfl rfl ?_
                refine TL.guardYes (d := 68) rfl rfl rfl ?_
                refine TL.move rfl rfl ?_
                refine TL.guardYes (d := 68) rfl rfl rfl ?_
                refine TL.lenStr Try.underlying9 rfl rfl ?_
                refine TL.guardYes (d := 68) rfl rfl rfl ?_
                refine TL.gtr rfl rfl rfl ?_
                refine TL.guardYes (d := 61) rfl rfl rfl ?_
                refine TL.pickT rfl rfl rfl rfl ?_
                refine TL.guardYes (d := 57) rfl rfl rfl ?_
                refine TL.pickF rfl rfl rfl rfl ?_
                refine TL.pickT rfl rfl rfl rfl ?_
                refine TL.assign rfl rfl ?_
                refine TL.done ?_
                refine hK8 _ ?_
                refine Le.here rfl (by first | exact decide_eq_true (by omega) | exact decide_eq_false (by omega) | exact decide_eq_decide.2 (by omega) | exact decide_eq_true (by grind) | exact decide_eq_false (by grind) | exact decide_eq_decide.2 (by grind)) ?_
                repeat (first | exact Le.refl _ | refine Le.skip rfl ?_)
              ·
                refine TL.guardYes (d := 61) rfl rfl rfl ?_
                refine TL.pickT rfl rfl rfl rfl ?_
                refine TL.guardYes (d := 61) rfl rfl rfl ?_
                refine TL.move rfl rfl ?_
                refine TL.guardNo (d := 68) rfl rfl rfl rfl rfl ?_
                refine TL.guardNo (d := 68) rfl rfl rfl rfl rfl ?_
                refine TL.guardNo (d := 68) rfl rfl rfl rfl rfl ?_
                refine TL.guardYes (d := 61) rfl rfl rfl ?_
                refine TL.pickF rfl rfl rfl rfl ?_
                refine TL.guardYes (d := 57) rfl rfl rfl ?_
                refine TL.pickF rfl rfl rfl rfl ?_
                refine TL.pickT rfl rfl rfl rfl ?_
                refine TL.assign rfl rfl ?_
                refine TL.done ?_
                refine hK8 _ ?_
                refine Le.here rfl (by first | exact decide_eq_true (by omega) | exact decide_eq_false (by omega) | exact decide_eq_decide.2 (by omega) | exact decide_eq_true (by grind) | exact decide_eq_false (by grind) | exact decide_eq_decide.2 (by grind)) ?_
                repeat (first | exact Le.refl _ | refine Le.skip rfl ?_)
            ·
              refine TL.guardYes (d := 61) rfl rfl rfl ?_
              refine TL.move rfl rfl ?_
              refine TL.guardNo (d := 64) rfl rfl rfl rfl rfl ?_
              refine TL.guardNo (d := 64) rfl rfl rfl rfl rfl ?_
              refine TL.guardYes (d := 61) rfl rfl rfl ?_
              refine TL.pickF rfl rfl rfl rfl ?_
              refine TL.guardYes (d := 61) rfl rfl rfl ?_
              refine TL.move rfl rfl ?_
              refine TL.guardNo (d := 68) rfl rfl rfl rfl rfl ?_
              refine TL.guardNo (d := 68) rfl rfl rfl rfl rfl ?_
              refine TL.guardNo (d := 68) rfl rfl rfl rfl rfl ?_
              refine TL.guardYes (d := 61) rfl rfl rfl ?_
              refine TL.pickF rfl rfl rfl rfl ?_
              refine TL.guardYes (d := 57) rfl rfl rfl ?_
              refine TL.pickF rfl rfl rfl rfl ?_
              refine TL.pickT rfl rfl rfl rfl ?_
              refine TL.assign rfl rfl ?_
              refine TL.done ?_
              refine hK8 _ ?_
              refine Le.here rfl (by first | exact decide_eq_true (by omega) | exact decide_eq_false (by omega) | exact decide_eq_decide.2 (by omega) | exact decide_eq_true (by grind) | exact decide_eq_false (by grind) | exact decide_eq_decide.2 (by grind)) ?_
              repeat (first | exact Le.refl _ | refine Le.skip rfl ?_)
        refine TC.ret ?_
        refine Thn.ret ?_
        refine Ends.ret [6] rfl rfl ?_
        exact ⟨rfl, hH.trans0 (hc36.trans0 hc43)⟩
      ·
        have hz : En.newE D q k = 0 := Decidable.not_not.1 (by assumption)
        obtain ⟨H, cv, rfl, hHge, hHH, hHr, hHb⟩ := hps hz
        obtain ⟨hz2, hfil⟩ := En.new_zero hz
        rw [hfil] at hHr
        obtain ⟨l, hl0⟩ : ∃ l, En.liveL D q = l := ⟨_, rfl⟩
        have hll := En.liveL_len D q
        have hlv := En.liveL_are D q
        rw [hl0] at hv36 hll hHr hlv
        obtain ⟨d36, p36, rfl⟩ := hv36.shape
        have q43 : Ch [] w w43 := hH.trans0 (hc36.trans0 hc43)
        have hwH : w.heap.size ≤ H := by have := hH.size; have := hc36.size; omega
        refine TC.skip ?_
        refine Thn.go ?_
        refine TC.seq ?_
        refine TC.seq ?_
        refine TC.region ?_
        refine TL.assign rfl rfl ?_
        refine TL.done ?_
        refine Thn.go ?_
        refine TC.block ?_
        refine TC.loop1 (fun (i : Nat) => [(1, .int .i64 q), (2, str k), (7, .bool true), (8, .slice d36 l.length p36), (9, .int .i64 (En.liveE D q : Int)), (10, .pointer (some ⟨H, 0, none⟩)), (12, .int .i64 (i : Int))]) (fun i w' => i ≤ l.length ∧ (∃ v, Has w' H #[v, .bool true] 51 (0, 0) ∧ Rd w' v 4 ((l.drop i).filter (En.ge k)).length (((l.drop i).filter (En.ge k)).flatMap cl) ∧ ∀ b, v.ownBlock = some b → b ≠ H ∧ b < w'.heap.size) ∧ Ch [H] w43 w') (fun i => l.length - i) 0 (by repeat (first | exact trivial | refine ⟨rfl, ?_⟩)) (⟨by omega, ⟨cv, hHH, hHr, fun b hb => ⟨(hHb b hb).2.1, (hHb b hb).2.2⟩⟩, Ch.refl _ _⟩) (fun i w' hHH2 => ?_)
        obtain ⟨hi, ⟨v, hvH, hvR, hvb⟩, hch⟩ := hHH2
        have hrow : Rd w' (.slice d36 l.length p36) 4 l.length (l.flatMap cl) := ((Rd.ofOwn hv36).ch0 hc43).ch hch (fun b h1 h2 => by have := hv36.lt b h1; simp at h2; omega)
        refine TC.seq ?_
        refine TC.seq ?_
        refine TC.region ?_
        refine TL.move rfl rfl ?_
        refine TL.move rfl rfl ?_
        refine TL.lenSlice Try.underlying25 rfl rfl ?_
        refine TL.lss rfl rfl rfl ?_
        refine TL.done ?_
        refine Thn.go ?_
        refine TC.condP rfl (fun h12 => ?_) (fun h12 => ?_)
        ·
          have hil : i < l.length := by omega
          obtain ⟨b1, o1, rfl, hce⟩ := recIn hrow hil
          have hdi := En.drop_next hil
          have hge : En.ge k (En.rec l i) = !Op.bytesLess (En.rec l i).key k := rfl
          obtain ⟨hx1, hx2⟩ := hlv _ (En.rec_mem hil)
          obtain ⟨x, hx⟩ : ∃ x, En.rec l i = x := ⟨_, rfl⟩
          rw [hx] at hce hdi hge hx1 hx2
          refine TC.skip ?_
          refine Thn.go ?_
          refine TC.seq ?_
          refine TC.block ?_
          refine TC.seq ?_
          refine TC.regionBool (d := 87) (p := (En.ge k x = false)) (fun K13 hK13 => ?_) ?_
          ·
            refine TL.move rfl rfl ?_
            refine TL.move rfl rfl ?_
            refine TL.indexAddr (i) sl25 rfl rfl (by first | rfl | omega) (by omega) rfl ?_
            refine TL.fieldAddr fd32k0 rfl rfl ?_
            refine TL.load pl9 rfl ((show _ = some (str x.key) from hce _ (Ch.refl _ _) 0 (by decide))) rfl ?_
            refine TL.move rfl rfl ?_
            refine TL.lssStr rfl rfl rfl ?_
            refine TL.done ?_
            refine hK13 _ ?_
            refine Le.here rfl (by rw [Bool.eq_iff_iff, decide_eq_true_iff, hge]; simp) ?_
            repeat (first | exact Le.refl _ | refine Le.skip rfl ?_)
          refine TC.condP rfl (fun h14 => ?_) (fun h14 => ?_)
          ·
            have hgn : En.ge k x = false := by assumption
            refine TC.exit ?_
            refine Thn.exit ?_
            refine Blk.hit ?_
            refine Thn.go ?_
            refine TC.region ?_
            refine TL.move rfl rfl ?_
            refine TL.add_i64 rfl rfl (by omega) (by omega) rfl ?_
            refine TL.assign rfl rfl ?_
            refine TL.done ?_
            refine Lp.go (i + 1) (by repeat (first | exact trivial | refine ⟨rfl, ?_⟩)) ?_ (by first | omega | (dsimp only; omega))
            exact ⟨by omega, ⟨v, hvH, by rw [hdi, List.filter_cons_of_neg (by rw [hgn]; decide)] at hvR; exact hvR, hvb⟩, hch⟩
          ·
            have hgy : En.ge k x = true := by simpa using (by assumption : ¬ En.ge k x = false)
            rw [hdi, List.filter_cons_of_pos hgy] at hvR
            refine TC.skip ?_
            refine Thn.go ?_
            refine TC.seq ?_
            refine TC.region ?_
            refine TL.move rfl rfl ?_
            refine TL.call can23 rfl rfl (fn23c H v x _ w' hvH hvR hvb) (fun v90 w90 hr90 => ?_)
            obtain ⟨rfl, ⟨v2, hvH2, hvR2, hvb2⟩, hc90⟩ := hr90
            refine TL.move rfl rfl ?_
            refine TL.extract rfl rfl rfl ?_
            refine TL.extract rfl rfl rfl ?_
            refine TL.extract rfl rfl rfl ?_
            refine TL.alloc ze32 rfl (fun w13 hb13 hc13 hz13 => ?_)
            refine TL.store sz32 rfl rfl rfl hb13 (by simp [Value.cells]) (by simpa [Value.cells] using cl_one x) (.inl rfl) (fun ws1 hbs1 hcs1 hzs1 => ?_)
            replace hbs1 : Has ws1 w90.heap.size (cl x).toArray 32 (0, 0) := hbs1.setAll rfl
            have q1 : Ch [] w90 ws1 := hc13.then1 hcs1 (Nat.le_refl _)
            have hrow2 := (hrow.ch hc90 (fun b h1 h2 => by have := hv36.lt b h1; simp at h2; omega)).ch0 q1
            refine TL.assign rfl rfl ?_
            refine TL.assign rfl rfl ?_
            refine TL.done ?_
            refine Thn.go ?_
            refine TC.seq ?_
            refine TC.regionQ (fun w6 => Ch [] ws1 w6) mixed0 (by kernel_rfl) (Ch.drew [] _) ?_
            refine TQ.via rfl rfl rfl rfl (fun w2 hw2 => TL.move rfl rfl (TL.done ⟨rfl, rfl⟩)) ?_
            refine TQ.via rfl rfl rfl rfl (fun w2 hw2 => TL.neq rfl rfl rfl (TL.done ⟨rfl, rfl⟩)) ?_
            refine TQ.no (by simp) ?_
            refine TQ.via rfl rfl rfl rfl (fun w2 hw2 => TL.move rfl rfl (TL.done ⟨rfl, rfl⟩)) ?_
            refine TQ.guardYes (d := 96) rfl rfl rfl ?_
            refine TQ.via rfl rfl rfl rfl (fun w2 hw2 => TL.move rfl rfl (TL.done ⟨rfl, rfl⟩)) ?_
            refine TQ.guardYes (d := 96) rfl rfl rfl ?_
            refine TQ.via rfl rfl rfl rfl (fun w2 hw2 => TL.not rfl rfl (TL.done ⟨rfl, rfl⟩)) ?_
            refine TQ.via rfl rfl rfl rfl (fun w2 hw2 => TL.pickF rfl rfl rfl rfl (TL.done ⟨rfl, rfl⟩)) ?_
            refine TQ.via rfl rfl rfl rfl (fun w2 hw2 => TL.move rfl rfl (TL.done ⟨rfl, rfl⟩)) ?_
            refine TQ.guardYes (d := 100) rfl rfl rfl ?_
            refine TQ.via rfl rfl rfl rfl (fun w2 hw2 => TL.loadAgg (cl x) ag32 rfl rfl (fun j _ => by rw [(hbs1.ch0 hw2).cell, Nat.zero_add, List.getElem?_toArray]) rfl (TL.done ⟨rfl, rfl⟩)) ?_
            refine TQ.guardYes (d := 100) rfl rfl rfl ?_
            refine TQ.via rfl rfl rfl rfl (fun w2 hw2 => TL.move rfl rfl (TL.done ⟨rfl, rfl⟩)) ?_
            refine TQ.guardYes (d := 100) rfl rfl rfl ?_
            refine TQ.via rfl rfl rfl rfl (fun w2 hw2 => TL.move rfl rfl (TL.done ⟨rfl, rfl⟩)) ?_
            refine TQ.guardYes (d := 100) rfl rfl rfl ?_
            refine TQ.via rfl rfl rfl rfl (fun w2 hw2 => TL.indexAddr (i) sl25 rfl rfl (by first | rfl | omega) (by omega) rfl (TL.done ⟨rfl, rfl⟩)) ?_
            refine TQ.guardYes (d := 100) rfl rfl rfl ?_
            refine TQ.via rfl rfl rfl rfl (fun w2 hw2 => TL.loadAgg (cl x) ag32 rfl rfl (fun j hj => by obtain ⟨b', o', e, hh⟩ := recAt (hrow2.ch0 hw2) hil; cases e; rw [← hx]; exact hh j hj) rfl (TL.done ⟨rfl, rfl⟩)) ?_
            refine TQ.guardYes (d := 100) rfl rfl rfl ?_
            refine TQ.via rfl rfl rfl rfl (fun w2 hw2 => TL.neqAgg gd32 (eqEntry x x _) rfl rfl rfl (TL.done ⟨rfl, rfl⟩)) ?_
            refine TQ.no (by simp) ?_
            refine TQ.via rfl rfl rfl rfl (fun w2 hw2 => TL.pickF rfl rfl rfl rfl (TL.done ⟨rfl, rfl⟩)) ?_
            refine TQ.via rfl rfl rfl rfl (fun w2 hw2 => TL.move rfl rfl (TL.done ⟨rfl, rfl⟩)) ?_
            refine TQ.guardYes (d := 108) rfl rfl rfl ?_
            refine TQ.via rfl rfl rfl rfl (fun w2 hw2 => TL.fieldAddr fd32k3 rfl rfl (TL.done ⟨rfl, rfl⟩)) ?_
            refine TQ.guardYes (d := 108) rfl rfl rfl ?_
            refine TQ.via rfl rfl rfl rfl (fun w2 hw2 => TL.load pl4 rfl ((show _ = some (Value.bool false) from ((hbs1.ch0 hw2).cell 3).trans (by show some (Value.bool x.gone) = _; rw [hx1]))) rfl (TL.done ⟨rfl, rfl⟩)) ?_
            refine TQ.via rfl rfl rfl rfl (fun w2 hw2 => TL.pickF rfl rfl rfl rfl (TL.done ⟨rfl, rfl⟩)) ?_
            refine TQ.via rfl rfl rfl rfl (fun w2 hw2 => TL.move rfl rfl (TL.done ⟨rfl, rfl⟩)) ?_
            refine TQ.guardYes (d := 112) rfl rfl rfl ?_
            refine TQ.via rfl rfl rfl rfl (fun w2 hw2 => TL.fieldAddr fd32k2 rfl rfl (TL.done ⟨rfl, rfl⟩)) ?_
            refine TQ.guardYes (d := 112) rfl rfl rfl ?_
            refine TQ.via rfl rfl rfl rfl (fun w2 hw2 => TL.load pl3 rfl ((hbs1.ch0 hw2).cell 2) rfl (TL.done ⟨rfl, rfl⟩)) ?_
            refine TQ.guardYes (d := 112) rfl rfl rfl ?_
            refine TQ.via rfl rfl rfl rfl (fun w2 hw2 => TL.move rfl rfl (TL.done ⟨rfl, rfl⟩)) ?_
            refine TQ.guardYes (d := 112) rfl rfl rfl ?_
            refine TQ.via rfl rfl rfl rfl (fun w2 hw2 => TL.gtr rfl rfl rfl (TL.done ⟨rfl, rfl⟩)) ?_
            refine TQ.no (by omega) ?_
            refine TQ.via rfl rfl rfl rfl (fun w2 hw2 => TL.pickF rfl rfl rfl rfl (TL.done ⟨rfl, rfl⟩)) ?_
            refine TQ.done (fun w2 hw2 => ?_)
            refine Thn.go ?_
            refine TC.condF rfl rfl ?_
            refine TC.skip ?_
            refine Blk.go ?_
            refine Thn.go ?_
            refine TC.region ?_
            refine TL.move rfl rfl ?_
            refine TL.add_i64 rfl rfl (by omega) (by omega) rfl ?_
            refine TL.assign rfl rfl ?_
            refine TL.done ?_
            refine Lp.go (i + 1) (by repeat (first | exact trivial | refine ⟨rfl, ?_⟩)) ?_ (by first | omega | (dsimp only; omega))
            have q2 := q1.trans0 hw2
            exact ⟨by omega, ⟨v2, hvH2.ch0 q2, hvR2.ch0 q2, fun b hb => ⟨(hvb2 b hb).1, by have := (hvb2 b hb).2; have := hc90.size; have := q2.size; omega⟩⟩, (hch.trans hc90 (fun x h _ => h) (fun x h _ => h)).trans q2 (fun x h _ => h) (by simp)⟩
        ·
          have hil : i = l.length := by omega
          subst hil
          rw [List.drop_length] at hvR
          refine TC.exit ?_
          refine Thn.exit ?_
          refine Lp.exit ?_
          refine Blk.hit ?_
          refine Thn.go ?_
          refine TC.seq ?_
          refine TC.region ?_
          refine TL.move rfl rfl ?_
          refine TL.call can23 rfl rfl (fn23e H v w' hvH hvR hvb) (fun v120 w120 hr120 => ?_)
          obtain ⟨rfl, ⟨v2, hvH2, hvR2, hvb2⟩, hc120⟩ := hr120
          refine TL.move rfl rfl ?_
          refine TL.extract rfl rfl rfl ?_
          refine TL.extract rfl rfl rfl ?_
          refine TL.extract rfl rfl rfl ?_
          refine TL.alloc ze32 rfl (fun w16 hb16 hc16 hz16 => ?_)
          refine TL.store sz32 rfl rfl rfl hb16 (by simp [Value.cells]) (by simpa [Value.cells] using cl_one e0) (.inl rfl) (fun ws2 hbs2 hcs2 hzs2 => ?_)
          have q2 : Ch [] w120 ws2 := hc16.then1 hcs2 (Nat.le_refl _)
          refine TL.assign rfl rfl ?_
          refine TL.assign rfl rfl ?_
          refine TL.done ?_
          refine Thn.go ?_
          refine TC.seq ?_
          refine TC.region ?_
          refine TL.move rfl rfl ?_
          refine TL.call can23 rfl rfl (fn23e H v2 ws2 (hvH2.ch0 q2) (hvR2.ch0 q2) (fun b hb => ⟨(hvb2 b hb).1, by have := (hvb2 b hb).2; have := hc120.size; have := q2.size; omega⟩)) (fun v126 w126 hr126 => ?_)
          obtain ⟨rfl, _, hc126⟩ := hr126
          refine TL.move rfl rfl ?_
          refine TL.extract rfl rfl rfl ?_
          refine TL.extract rfl rfl rfl ?_
          refine TL.extract rfl rfl rfl ?_
          refine TL.alloc ze32 rfl (fun w19 hb19 hc19 hz19 => ?_)
          refine TL.store sz32 rfl rfl rfl hb19 (by simp [Value.cells]) (by simpa [Value.cells] using cl_one e0) (.inl rfl) (fun ws3 hbs3 hcs3 hzs3 => ?_)
          have q3 : Ch [] w126 ws3 := hc19.then1 hcs3 (Nat.le_refl _)
          refine TL.assign rfl rfl ?_
          refine TL.assign rfl rfl ?_
          refine TL.done ?_
          refine Thn.go ?_
          refine TC.seq ?_
          refine TC.region ?_
          refine TL.move rfl rfl ?_
          refine TL.move rfl rfl ?_
          refine TL.guardYes (d := 131) rfl rfl rfl ?_
          refine TL.move rfl rfl ?_
          refine TL.guardYes (d := 131) rfl rfl rfl ?_
          refine TL.eql rfl rfl rfl ?_
          refine TL.yes (by omega) ?_
          refine TL.pickT rfl rfl rfl rfl ?_
          refine TL.move rfl rfl ?_
          refine TL.guardYes (d := 135) rfl rfl rfl ?_
          refine TL.move rfl rfl ?_
          refine TL.guardYes (d := 135) rfl rfl rfl ?_
          refine TL.not rfl rfl ?_
          refine TL.pickT rfl rfl rfl rfl ?_
          refine TL.move rfl rfl ?_
          refine TL.guardYes (d := 139) rfl rfl rfl ?_
          refine TL.move rfl rfl ?_
          refine TL.guardYes (d := 139) rfl rfl rfl ?_
          refine TL.eql rfl rfl rfl ?_
          refine TL.yes (rfl) ?_
          refine TL.pickT rfl rfl rfl rfl ?_
          refine TL.move rfl rfl ?_
          refine TL.guardYes (d := 143) rfl rfl rfl ?_
          refine TL.move rfl rfl ?_
          refine TL.guardYes (d := 143) rfl rfl rfl ?_
          refine TL.not rfl rfl ?_
          refine TL.pickT rfl rfl rfl rfl ?_
          refine TL.move rfl rfl ?_
          refine TL.guardYes (d := 147) rfl rfl rfl ?_
          refine TL.move rfl rfl ?_
          refine TL.guardYes (d := 147) rfl rfl rfl ?_
          refine TL.eql rfl rfl rfl ?_
          refine TL.yes (rfl) ?_
          refine TL.pickT rfl rfl rfl rfl ?_
          refine TL.assign rfl rfl ?_
          refine TL.done ?_
          refine Thn.go ?_
          refine TC.ret ?_
          refine Ends.ret [6] rfl rfl ?_
          exact ⟨rfl, ((((q43.thenS hch (fun x h => by simp at h; omega)).thenS hc120 (fun x h => by simp at h; omega)).trans0 q2).thenS hc126 (fun x h => by simp at h; omega)).trans0 q3⟩

