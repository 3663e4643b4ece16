/-
  Walks through the given program: each theorem fnN says what the call of function N of the translation hands back, for all arguments that its premises describe, and that nothing that was there has turned.
-/
import Derived.Test.YtkgckmdhlokjmaaDoorC5
namespace Go.Proofs.YtkgckmdhlokjmaaDoor
open Go.Lane
open Go.Key
open Go.RowKit (Below)
theorem can17 : Callable Tryd.prog 17 := ⟨Tryd.f17, Tryd.func17, by kernel_rfl, rfl⟩
theorem can18 : Callable Tryd.prog 18 := ⟨Tryd.f18, Tryd.func18, by kernel_rfl, rfl⟩
theorem can19 : Callable Tryd.prog 19 := ⟨Tryd.f19, Tryd.func19, by kernel_rfl, rfl⟩

theorem fn5 (av : Value) (l : List Part) (s : List UInt8) (n : Int) (w : World) (h : Sh w) (hin : ∀ p ∈ l, inI p.int) (ha : Rd w av 3 l.length (l.flatMap cl)) : Rets Tryd.prog 5 #[av, str s, .int .i64 n] w (fun v w' => v = .bool true ∧ Ch [] w w') := by
  obtain ⟨ad, ac, rfl, _⟩ := ha.shape
  have hmm : maxLen = 9223372036854775807 := rfl
  refine Rets.of (n := 97) (vs := [_, _, _]) Tryd.func5 rfl rfl rfl ?_
  refine TC.seq ?_
  refine TC.region ?_
  refine TL.assign rfl rfl ?_
  refine TL.done ?_
  refine Thn.go ?_
  refine TC.seq ?_
  refine TC.regionBool (d := 24) (p := (100 < l.length ∨ 10000 < s.length)) (fun K1 hK1 => ?_) ?_
  ·
    refine TL.move rfl rfl ?_
    refine TL.lenSlice Tryd.underlying22 rfl rfl ?_
    refine TL.gtr rfl rfl rfl ?_
    refine TL.em (fun e19 => ?_) (fun e19 => ?_)
    ·
      refine TL.move rfl rfl ?_
      refine TL.guardNo (d := 20) rfl rfl rfl rfl rfl ?_
      refine TL.guardNo (d := 20) rfl rfl rfl rfl rfl ?_
      refine TL.guardNo (d := 20) rfl rfl rfl rfl rfl ?_
      refine TL.pickT rfl rfl rfl rfl ?_
      refine TL.done ?_
      refine hK1 _ ?_
      refine Le.here rfl (by first | exact decide_eq_true (by omega) | exact decide_eq_false (by omega) | exact decide_eq_decide.2 (by omega) | exact decide_eq_true (by grind) | exact decide_eq_false (by grind) | exact decide_eq_decide.2 (by grind)) ?_
      repeat (first | exact Le.refl _ | refine Le.skip rfl ?_)
    ·
      refine TL.move rfl rfl ?_
      refine TL.guardYes (d := 20) rfl rfl rfl ?_
      refine TL.move rfl rfl ?_
      refine TL.guardYes (d := 20) rfl rfl rfl ?_
      refine TL.lenStr Tryd.underlying9 rfl rfl ?_
      refine TL.guardYes (d := 20) rfl rfl rfl ?_
      refine TL.gtr rfl rfl rfl ?_
      refine TL.pickF rfl rfl rfl rfl ?_
      refine TL.done ?_
      refine hK1 _ ?_
      refine Le.here rfl (by first | exact decide_eq_true (by omega) | exact decide_eq_false (by omega) | exact decide_eq_decide.2 (by omega) | exact decide_eq_true (by grind) | exact decide_eq_false (by grind) | exact decide_eq_decide.2 (by grind)) ?_
      repeat (first | exact Le.refl _ | refine Le.skip rfl ?_)
  refine TC.condP rfl (fun h3 => ?_) (fun h3 => ?_)
  ·
    refine TC.seq ?_
    refine TC.region ?_
    refine TL.assign rfl rfl ?_
    refine TL.done ?_
    refine Thn.go ?_
    refine TC.ret ?_
    refine Thn.ret ?_
    refine Ends.ret [6] rfl rfl ?_
    exact ⟨rfl, Ch.refl _ _⟩
  ·
    have hll : l.length ≤ 100 ∧ s.length ≤ 10000 := by omega
    refine TC.skip ?_
    refine Thn.go ?_
    refine TC.seq ?_
    refine TC.seq ?_
    refine TC.region ?_
    refine TL.assign rfl rfl ?_
    refine TL.done ?_
    refine Thn.go ?_
    refine TC.block ?_
    refine TC.loop1 (fun (k : Nat) => [(0, .slice ad l.length ac), (1, str s), (2, .int .i64 n), (7, .int .i64 (k : Int))]) (fun k w' => k ≤ l.length ∧ Ch [] w w') (fun k => l.length - k) 0 (by repeat (first | exact trivial | refine ⟨rfl, ?_⟩)) (⟨by omega, Ch.refl _ _⟩) (fun k w' hH => ?_)
    obtain ⟨hk, hch⟩ := hH
    refine TC.seq ?_
    refine TC.seq ?_
    refine TC.region ?_
    refine TL.move rfl rfl ?_
    refine TL.move rfl rfl ?_
    refine TL.lenSlice Tryd.underlying22 rfl rfl ?_
    refine TL.lss rfl rfl rfl ?_
    refine TL.done ?_
    refine Thn.go ?_
    refine TC.condP rfl (fun h4 => ?_) (fun h4 => ?_)
    ·
      have hkl : k < l.length := by omega
      obtain ⟨b1, o1, rfl, hce1⟩ := Rd.elt cl_len (by decide) (ha.ch0 hch) hkl
      refine TC.skip ?_
      refine Thn.go ?_
      refine TC.seq ?_
      refine TC.block ?_
      refine TC.seq ?_
      refine TC.region ?_
      refine TL.move rfl rfl ?_
      refine TL.move rfl rfl ?_
      refine TL.indexAddr (k) sl22 rfl rfl (by first | rfl | omega) (by omega) rfl ?_
      refine TL.fieldAddr fd29k2 rfl rfl ?_
      refine TL.load pl9 rfl ((show _ = some (str l[k].text) from hce1 2 (by decide))) rfl ?_
      refine TL.lenStr Tryd.underlying9 rfl rfl ?_
      refine TL.gtr rfl rfl rfl ?_
      refine TL.done ?_
      refine Thn.go ?_
      refine TC.condP rfl (fun h5 => ?_) (fun h5 => ?_)
      ·
        refine TC.seq ?_
        refine TC.region ?_
        refine TL.assign rfl rfl ?_
        refine TL.done ?_
        refine Thn.go ?_
        refine TC.ret ?_
        refine Blk.ret ?_
        refine Thn.ret ?_
        refine Lp.ret ?_
        refine Blk.ret ?_
        refine Thn.ret ?_
        refine Ends.ret [6] rfl rfl ?_
        exact ⟨rfl, hch⟩
      ·
        refine TC.skip ?_
        refine Blk.go ?_
        refine Thn.go ?_
        refine TC.region ?_
        refine TL.move rfl rfl ?_
        refine TL.add_i64 rfl rfl (by omega) (by omega) rfl ?_
        refine TL.assign rfl rfl ?_
        refine TL.done ?_
        refine Lp.go (k + 1) (by repeat (first | exact trivial | refine ⟨rfl, ?_⟩)) ?_ (by first | omega | (dsimp only; omega))
        exact ⟨by omega, hch⟩
    ·
      refine TC.exit ?_
      refine Thn.exit ?_
      refine Lp.exit ?_
      refine Blk.hit ?_
      refine Thn.go ?_
      refine TC.seq ?_
      refine TC.region ?_
      refine TL.move rfl rfl ?_
      refine TL.append sl22 rfl rfl rfl ((World.ownsRow_nil _ _ _ _ : Own w' w'.heap.size 29 3 (.slice none 0 0) 0 [])) (News.ofRd Tryd.underlying22 (ha.ch0 hch) (rows_one l)) (by omega) (by omega) (by omega) (fun v39 w39 hv39 hc39 _ => ?_)
      have q39 : Ch [] w w39 := hch.trans0 (Own.thenCh (World.ownsRow_nil _ _ _ _ : Own w' w'.heap.size 29 3 (.slice none 0 0) 0 []) (Ch.refl _ _) hc39)
      rw [Nat.zero_add, List.nil_append] at hv39
      obtain ⟨d39, p39, rfl⟩ := hv39.shape
      refine TL.assign rfl rfl ?_
      refine TL.done ?_
      refine Thn.go ?_
      refine TC.seq ?_
      refine TC.region ?_
      refine TL.move rfl rfl ?_
      refine TL.call can10 rfl rfl (fn10 _ l w39 (h.ch0 q39) hin (Rd.ofOwn hv39)) (fun v42 w42 hr42 => ?_)
      obtain ⟨rfl, hc42⟩ := hr42
      have q42 := q39.trans0 hc42
      refine TL.move rfl rfl ?_
      refine TL.extract rfl rfl rfl ?_
      refine TL.extract rfl rfl rfl ?_
      refine TL.assign rfl rfl ?_
      refine TL.assign rfl rfl ?_
      refine TL.done ?_
      refine Thn.go ?_
      refine TC.seq ?_
      refine TC.region ?_
      refine TL.move rfl rfl ?_
      refine TL.call can17 rfl rfl (fn17 _ l w42 hin (ha.ch0 q42)) (fun v47 w47 hr47 => ?_)
      obtain ⟨rfl, hc47⟩ := hr47
      have q47 := q42.trans0 hc47
      refine TL.move rfl rfl ?_
      refine TL.extract rfl rfl rfl ?_
      refine TL.extract rfl rfl rfl ?_
      refine TL.assign rfl rfl ?_
      refine TL.assign rfl rfl ?_
      refine TL.done ?_
      refine Thn.go ?_
      refine TC.seq ?_
      refine TC.region ?_
      refine TL.move rfl rfl ?_
      refine TL.call can16 rfl rfl (fn16 s (by omega) w47 (h.ch0 q47)) (fun v52 w52 hr52 => ?_)
      obtain ⟨o, rfl, ho52, hc52⟩ := hr52
      have q52 := q47.trans0 hc52
      refine TL.move rfl rfl ?_
      refine TL.extract rfl rfl rfl ?_
      refine TL.extract rfl rfl rfl ?_
      refine TL.assign rfl rfl ?_
      refine TL.assign rfl rfl ?_
      refine TL.done ?_
      refine Thn.go ?_
      refine TC.seq ?_
      refine TC.region ?_
      refine TL.move rfl rfl ?_
      refine TL.call can18 rfl rfl (fn18 s w52) (fun v57 w57 hr57 => ?_)
      obtain ⟨o2, rfl, ho57, hc57⟩ := hr57
      have q57 := q52.trans0 hc57
      refine TL.move rfl rfl ?_
      refine TL.extract rfl rfl rfl ?_
      refine TL.extract rfl rfl rfl ?_
      refine TL.assign rfl rfl ?_
      refine TL.assign rfl rfl ?_
      refine TL.done ?_
      refine Thn.go ?_
      refine TC.seq ?_
      refine TC.region ?_
      refine TL.move rfl rfl ?_
      refine TL.move rfl rfl ?_
      refine TL.eqlStr rfl rfl rfl ?_
      refine TL.yes (rfl) ?_
      refine TL.move rfl rfl ?_
      refine TL.guardYes (d := 63) rfl rfl rfl ?_
      refine TL.move rfl rfl ?_
      refine TL.guardYes (d := 63) rfl rfl rfl ?_
      refine TL.move rfl rfl ?_
      refine TL.guardYes (d := 63) rfl rfl rfl ?_
      refine TL.eql rfl rfl rfl ?_
      refine TL.yes (rfl) ?_
      refine TL.pickT rfl rfl rfl rfl ?_
      refine TL.move rfl rfl ?_
      refine TL.guardYes (d := 68) rfl rfl rfl ?_
      refine TL.move rfl rfl ?_
      refine TL.guardYes (d := 68) rfl rfl rfl ?_
      refine TL.move rfl rfl ?_
      refine TL.guardYes (d := 68) rfl rfl rfl ?_
      refine TL.call can19 rfl rfl (fn19 _ _ (cutL s) (cutL s) w57 ((Rd.ofOwn ho52).ch0 hc57) (Rd.ofOwn ho57)) (fun v71 w71 hr71 => ?_)
      rw [decide_eq_true rfl] at hr71
      obtain ⟨rfl, hc71⟩ := hr71
      have q71 := q57.trans0 hc71
      refine TL.pickT rfl rfl rfl rfl ?_
      refine TL.move rfl rfl ?_
      refine TL.guardYes (d := 73) rfl rfl rfl ?_
      refine TL.move rfl rfl ?_
      refine TL.guardYes (d := 73) rfl rfl rfl ?_
      refine TL.move rfl rfl ?_
      refine TL.guardYes (d := 73) rfl rfl rfl ?_
      refine TL.eql rfl rfl rfl ?_
      refine TL.yes (rfl) ?_
      refine TL.pickT rfl rfl rfl rfl ?_
      refine TL.move rfl rfl ?_
      refine TL.guardYes (d := 78) rfl rfl rfl ?_
      refine TL.move rfl rfl ?_
      refine TL.guardYes (d := 78) rfl rfl rfl ?_
      refine TL.move rfl rfl ?_
      refine TL.guardYes (d := 78) rfl rfl rfl ?_
      refine TL.call can19 rfl rfl (fn19 _ _ l l w71 ((Rd.ofOwn hv39).ch0 ((((hc42.trans0 hc47).trans0 hc52).trans0 hc57).trans0 hc71)) (ha.ch0 q71)) (fun v81 w81 hr81 => ?_)
      rw [decide_eq_true rfl] at hr81
      obtain ⟨rfl, hc81⟩ := hr81
      have q81 := q71.trans0 hc81
      refine TL.pickT rfl rfl rfl rfl ?_
      refine TL.move rfl rfl ?_
      refine TL.guardYes (d := 83) rfl rfl rfl ?_
      refine TL.move rfl rfl ?_
      refine TL.guardYes (d := 83) rfl rfl rfl ?_
      refine TL.call can13 rfl rfl (fn13 n w81) (fun v85 w85 hr85 => ?_)
      obtain ⟨rfl, hc85⟩ := hr85
      refine TL.guardYes (d := 83) rfl rfl rfl ?_
      refine TL.move rfl rfl ?_
      refine TL.guardYes (d := 83) rfl rfl rfl ?_
      refine TL.buildRec [0, 1] [.const (Value.int IntKind.u8 1), .tmp 86] (cl (numP n)) rfl rfl (by kernel_rfl) rfl ?_
      refine TL.guardYes (d := 83) rfl rfl rfl ?_
      refine TL.eqlAgg (p := numP n = numP n) gd29 (eqPart _ _ _) rfl rfl rfl ?_
      refine TL.yes (rfl) ?_
      refine TL.pickT rfl rfl rfl rfl ?_
      refine TL.move rfl rfl ?_
      refine TL.guardYes (d := 90) rfl rfl rfl ?_
      refine TL.move rfl rfl ?_
      refine TL.guardYes (d := 90) rfl rfl rfl ?_
      refine TL.call can14 rfl rfl (fn14 s w85) (fun v92 w92 hr92 => ?_)
      obtain ⟨rfl, hc92⟩ := hr92
      refine TL.guardYes (d := 90) rfl rfl rfl ?_
      refine TL.move rfl rfl ?_
      refine TL.guardYes (d := 90) rfl rfl rfl ?_
      refine TL.buildRec [0, 2] [.const (Value.int IntKind.u8 2), .tmp 93] (cl (wordP s)) rfl rfl (by kernel_rfl) rfl ?_
      refine TL.guardYes (d := 90) rfl rfl rfl ?_
      refine TL.eqlAgg (p := wordP s = wordP s) gd29 (eqPart _ _ _) rfl rfl rfl ?_
      refine TL.yes (rfl) ?_
      refine TL.pickT rfl rfl rfl rfl ?_
      refine TL.assign rfl rfl ?_
      refine TL.done ?_
      refine Thn.go ?_
      refine TC.ret ?_
      refine Ends.ret [6] rfl rfl ?_
      exact ⟨rfl, (q81.trans0 hc85).trans0 hc92⟩

