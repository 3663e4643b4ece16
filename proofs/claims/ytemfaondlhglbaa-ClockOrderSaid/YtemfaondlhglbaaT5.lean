/-
  Walks through the given program: each theorem fnN says what the call of function N of the translation hands back, for all arguments that its premises describe, and that nothing that was there has turned.
-/
import Derived.Test.YtemfaondlhglbaaT4
namespace Go.Proofs.Ytemfaondlhglbaa
open Go.Lane
theorem can21 : Callable Try.prog 21 := ⟨Try.f21, Try.func21, by kernel_rfl, rfl⟩
theorem now_yes {l : List Tm.Timer} {m : Int} {i : Nat} (h : i < l.length) (hm : (Tm.rec l i).at_ ≤ m) : Tm.now (l.take (i + 1)) m = Tm.now (l.take i) m ++ [Tm.rec l i] ∧ Tm.later (l.take (i + 1)) m = Tm.later (l.take i) m := by
  rw [Tm.take_snoc h, Tm.now, Tm.later, List.filter_append, List.filter_append]
  exact ⟨by simp [Tm.now, hm], by simp [Tm.later, hm]⟩
theorem now_no {l : List Tm.Timer} {m : Int} {i : Nat} (h : i < l.length) (hm : ¬ (Tm.rec l i).at_ ≤ m) : Tm.now (l.take (i + 1)) m = Tm.now (l.take i) m ∧ Tm.later (l.take (i + 1)) m = Tm.later (l.take i) m ++ [Tm.rec l i] := by
  rw [Tm.take_snoc h, Tm.now, Tm.later, List.filter_append, List.filter_append]
  exact ⟨by simp [Tm.now, hm], by simp [Tm.later, hm]⟩

theorem fn18 (a : Value) (l : List Tm.Timer) (m : Int) (w : World) (ha : Rd w a 5 l.length (l.flatMap cl)) : Rets Try.prog 18 #[a, .int .i64 m] w (fun v w' => ∃ r s, v = .tuple #[r, s, .int .i64 (Tm.dueE l m : Int)] ∧ Own w' w.heap.size 27 5 r (Tm.dueL l m).length ((Tm.dueL l m).flatMap cl) ∧ Own w' w.heap.size 27 5 s (Tm.restL l m).length ((Tm.restL l m).flatMap cl) ∧ Apart r s ∧ Ch [] w w') := by
  obtain ⟨ad, c, rfl, _⟩ := ha.shape
  have hmx : l.length ≤ 9223372036854775807 := ha.nlt
  have hmm : maxLen = 9223372036854775807 := rfl
  refine Rets.of (n := 51) (vs := [_, _]) Try.func18 rfl rfl rfl ?_
  refine TC.seq ?_
  refine TC.region ?_
  refine TL.assign rfl rfl ?_
  refine TL.assign rfl rfl ?_
  refine TL.assign rfl rfl ?_
  refine TL.done ?_
  refine Thn.go ?_
  refine TC.seq ?_
  refine TC.region ?_
  refine TL.move rfl rfl ?_
  refine TL.call can21 rfl rfl (fn21 _ l w ha) (fun v12 w12 hr12 => ?_)
  obtain ⟨rfl, hc12⟩ := hr12
  refine TL.assign rfl rfl ?_
  refine TL.done ?_
  refine Thn.go ?_
  refine TC.seq ?_
  refine TC.seq ?_
  refine TC.region ?_
  refine TL.move rfl rfl ?_
  refine TL.neq rfl rfl rfl ?_
  refine TL.done ?_
  refine Thn.go ?_
  refine TC.condP rfl (fun h1 => ?_) (fun h1 => ?_)
  ·
    obtain ⟨e1, e2, e3⟩ := Tm.due_check (m := m) (show Tm.checkE l ≠ 0 by omega)
    refine TC.seq ?_
    refine TC.region ?_
    refine TL.move rfl rfl ?_
    refine TL.assign rfl rfl ?_
    refine TL.assign rfl rfl ?_
    refine TL.assign rfl rfl ?_
    refine TL.done ?_
    refine Thn.go ?_
    refine TC.ret ?_
    refine Thn.ret ?_
    refine Ends.ret [4, 5, 6] rfl rfl ?_
    exact ⟨_, _, by rw [e1]; rfl, by rw [e2]; exact World.ownsRow_nil _ _ _ _, by rw [e3]; exact World.ownsRow_nil _ _ _ _, Apart.nil _, hc12⟩
  ·
    have h0 : Tm.checkE l = 0 := by omega
    obtain ⟨hlen, hgood⟩ := Tm.check_zero h0
    refine TC.skip ?_
    refine Thn.go ?_
    refine TC.seq ?_
    refine TC.regionBool (d := 21) (p := (m < 0 ∨ 1099511627776 < m)) (fun K2 hK2 => ?_) ?_
    ·
      refine TL.move rfl rfl ?_
      refine TL.lss rfl rfl rfl ?_
      refine TL.em (fun e17 => ?_) (fun e17 => ?_)
      ·
        refine TL.move rfl rfl ?_
        refine TL.guardNo (d := 18) rfl rfl rfl rfl rfl ?_
        refine TL.guardNo (d := 18) rfl rfl rfl rfl rfl ?_
        refine TL.pickT rfl rfl rfl rfl ?_
        refine TL.done ?_
        refine hK2 _ ?_
        refine Le.here rfl (by first | exact decide_eq_true (by omega) | exact decide_eq_false (by omega) | exact decide_eq_decide.2 (by omega) | exact decide_eq_true (by grind) | exact decide_eq_false (by grind) | exact decide_eq_decide.2 (by grind)) ?_
        repeat (first | exact Le.refl _ | refine Le.skip rfl ?_)
      ·
        refine TL.move rfl rfl ?_
        refine TL.guardYes (d := 18) rfl rfl rfl ?_
        refine TL.move rfl rfl ?_
        refine TL.guardYes (d := 18) rfl rfl rfl ?_
        refine TL.gtr rfl rfl rfl ?_
        refine TL.pickF rfl rfl rfl rfl ?_
        refine TL.done ?_
        refine hK2 _ ?_
        refine Le.here rfl (by first | exact decide_eq_true (by omega) | exact decide_eq_false (by omega) | exact decide_eq_decide.2 (by omega) | exact decide_eq_true (by grind) | exact decide_eq_false (by grind) | exact decide_eq_decide.2 (by grind)) ?_
        repeat (first | exact Le.refl _ | refine Le.skip rfl ?_)
    refine TC.condP rfl (fun h4 => ?_) (fun h4 => ?_)
    ·
      obtain ⟨e1, e2, e3⟩ := Tm.due_arg (m := m) h0 (by assumption)
      refine TC.seq ?_
      refine TC.region ?_
      refine TL.assign rfl rfl ?_
      refine TL.assign rfl rfl ?_
      refine TL.assign rfl rfl ?_
      refine TL.done ?_
      refine Thn.go ?_
      refine TC.ret ?_
      refine Thn.ret ?_
      refine Ends.ret [4, 5, 6] rfl rfl ?_
      exact ⟨_, _, by rw [e1]; rfl, by rw [e2]; exact World.ownsRow_nil _ _ _ _, by rw [e3]; exact World.ownsRow_nil _ _ _ _, Apart.nil _, hc12⟩
    ·
      obtain ⟨e1, e2, e3⟩ := Tm.due_ok (m := m) h0 (by assumption)
      refine TC.skip ?_
      refine Thn.go ?_
      refine TC.seq ?_
      refine TC.region ?_
      refine TL.assign rfl rfl ?_
      refine TL.assign rfl rfl ?_
      refine TL.done ?_
      refine Thn.go ?_
      refine TC.seq ?_
      refine TC.seq ?_
      refine TC.region ?_
      refine TL.assign rfl rfl ?_
      refine TL.done ?_
      refine Thn.go ?_
      refine TC.block ?_
      refine TC.loop3 (fun (i : Nat) (v1 v2 : Value) => [(0, .slice ad l.length c), (1, .int .i64 m), (8, v1), (9, v2), (10, .int .i64 (i : Int))]) (fun i v1 v2 w' => i ≤ l.length ∧ Own w' w12.heap.size 27 5 v1 (Tm.now (l.take i) m).length ((Tm.now (l.take i) m).flatMap cl) ∧ Own w' w12.heap.size 27 5 v2 (Tm.later (l.take i) m).length ((Tm.later (l.take i) m).flatMap cl) ∧ Apart v1 v2 ∧ Ch [] w12 w') (fun i _ _ => l.length - i) 0 (.slice none 0 0) (.slice none 0 0) (by repeat (first | exact trivial | refine ⟨rfl, ?_⟩)) (⟨by omega, World.ownsRow_nil _ _ _ _, World.ownsRow_nil _ _ _ _, Apart.nil _, Ch.refl _ _⟩) (fun i v1 v2 w' hH => ?_)
      obtain ⟨hi, ho1, ho2, hap, hch⟩ := hH
      have z1 := hch.size
      have y1 : (Tm.now (l.take i) m).length ≤ (l.take i).length := List.length_filter_le _ _
      have y2 : (Tm.later (l.take i) m).length ≤ (l.take i).length := List.length_filter_le _ _
      rw [List.length_take] at y1 y2
      refine TC.seq ?_
      refine TC.seq ?_
      refine TC.region ?_
      refine TL.move rfl rfl ?_
      refine TL.move rfl rfl ?_
      refine TL.lenSlice Try.underlying25 rfl rfl ?_
      refine TL.lss rfl rfl rfl ?_
      refine TL.done ?_
      refine Thn.go ?_
      refine TC.condP rfl (fun h5 => ?_) (fun h5 => ?_)
      ·
        have hil : i < l.length := by omega
        obtain ⟨b1, o1, rfl, hce⟩ := recAt ((ha.ch0 hc12).ch0 hch) hil
        refine TC.skip ?_
        refine Thn.go ?_
        refine TC.seq ?_
        refine TC.block ?_
        refine TC.seq ?_
        refine TC.region ?_
        refine TL.move rfl rfl ?_
        refine TL.move rfl rfl ?_
        refine TL.indexAddr (i) sl25 rfl rfl (by first | rfl | omega) (by omega) rfl ?_
        refine TL.fieldAddr fd27k0 rfl rfl ?_
        refine TL.load pl3 rfl ((show _ = some (Value.int .i64 (Tm.rec l i).at_) from hce 0 (by decide))) rfl ?_
        refine TL.move rfl rfl ?_
        refine TL.leq rfl rfl rfl ?_
        refine TL.done ?_
        refine Thn.go ?_
        refine TC.condP rfl (fun h6 => ?_) (fun h6 => ?_)
        ·
          obtain ⟨n1, n2⟩ := now_yes hil (by assumption : (Tm.rec l i).at_ ≤ m)
          refine TC.region ?_
          refine TL.move rfl rfl ?_
          refine TL.move rfl rfl ?_
          refine TL.move rfl rfl ?_
          refine TL.indexAddr (i) sl25 rfl rfl (by first | rfl | omega) (by omega) rfl ?_
          refine TL.loadAgg (cl (Tm.rec l i)) ag27 rfl rfl (fun j hj => hce j hj) rfl ?_
          refine TL.buildSlice [.tmp 39] sl25 rfl rfl rfl (by decide) (by first | simp [Value.cells]; done | simp [Value.cells, cl_len]; done) rfl (fun w40 hb40 hc40 hz40 => ?_)
          refine TL.appendD sl25 rfl rfl rfl (ho1.ch0 hc40) (News.ofRd Try.underlying25 (recOne hb40) (rows_one _)) (by omega) (by omega) (by omega) (fun v41 w41 hv41 hc41 hn41 => ?_)
          refine TL.assign rfl rfl ?_
          refine TL.done ?_
          refine Blk.go ?_
          refine Thn.go ?_
          refine TC.region ?_
          refine TL.move rfl rfl ?_
          refine TL.add_i64 rfl rfl (by omega) (by omega) rfl ?_
          refine TL.assign rfl rfl ?_
          refine TL.done ?_
          refine Lp.go ((i + 1, v41, v2)) (by repeat (first | exact trivial | refine ⟨rfl, ?_⟩)) ?_ (by first | omega | (dsimp only; omega))
          refine ⟨by show i + 1 ≤ l.length; omega, ?_, ?_, Apart.next hap hn41 (ho2.ch0 hc40).lt, (ho1.ch0 hc40).thenCh (hch.trans0 hc40) hc41⟩
          · show Own w41 _ 27 5 v41 (Tm.now (l.take (i + 1)) m).length _
            rw [n1, List.length_append, List.flatMap_append]; exact hv41
          · show Own w41 _ 27 5 v2 (Tm.later (l.take (i + 1)) m).length _
            rw [n2]; exact (ho2.ch0 hc40).ch hc41 hap.notin
        ·
          obtain ⟨n1, n2⟩ := now_no hil (by assumption : ¬ (Tm.rec l i).at_ ≤ m)
          refine TC.region ?_
          refine TL.move rfl rfl ?_
          refine TL.move rfl rfl ?_
          refine TL.move rfl rfl ?_
          refine TL.indexAddr (i) sl25 rfl rfl (by first | rfl | omega) (by omega) rfl ?_
          refine TL.loadAgg (cl (Tm.rec l i)) ag27 rfl rfl (fun j hj => hce j hj) rfl ?_
          refine TL.buildSlice [.tmp 46] sl25 rfl rfl rfl (by decide) (by first | simp [Value.cells]; done | simp [Value.cells, cl_len]; done) rfl (fun w47 hb47 hc47 hz47 => ?_)
          refine TL.appendD sl25 rfl rfl rfl (ho2.ch0 hc47) (News.ofRd Try.underlying25 (recOne hb47) (rows_one _)) (by omega) (by omega) (by omega) (fun v48 w48 hv48 hc48 hn48 => ?_)
          refine TL.assign rfl rfl ?_
          refine TL.done ?_
          refine Blk.go ?_
          refine Thn.go ?_
          refine TC.region ?_
          refine TL.move rfl rfl ?_
          refine TL.add_i64 rfl rfl (by omega) (by omega) rfl ?_
          refine TL.assign rfl rfl ?_
          refine TL.done ?_
          refine Lp.go ((i + 1, v1, v48)) (by repeat (first | exact trivial | refine ⟨rfl, ?_⟩)) ?_ (by first | omega | (dsimp only; omega))
          refine ⟨by show i + 1 ≤ l.length; omega, ?_, ?_, (Apart.next hap.symm hn48 (ho1.ch0 hc47).lt).symm, (ho2.ch0 hc47).thenCh (hch.trans0 hc47) hc48⟩
          · show Own w48 _ 27 5 v1 (Tm.now (l.take (i + 1)) m).length _
            rw [n1]; exact (ho1.ch0 hc47).ch hc48 hap.symm.notin
          · show Own w48 _ 27 5 v48 (Tm.later (l.take (i + 1)) m).length _
            rw [n2, List.length_append, List.flatMap_append]; exact hv48
      ·
        have hil : i = l.length := by omega
        subst hil
        rw [List.take_length] at ho1 ho2
        refine TC.exit ?_
        refine Thn.exit ?_
        refine Lp.exit ?_
        refine Blk.hit ?_
        refine Thn.go ?_
        refine TC.seq ?_
        refine TC.region ?_
        refine TL.move rfl rfl ?_
        refine TL.move rfl rfl ?_
        refine TL.assign rfl rfl ?_
        refine TL.assign rfl rfl ?_
        refine TL.assign rfl rfl ?_
        refine TL.done ?_
        refine Thn.go ?_
        refine TC.ret ?_
        refine Ends.ret [4, 5, 6] rfl rfl ?_
        exact ⟨_, _, by rw [e1]; rfl, by rw [e2]; exact ho1.base hc12.size, by rw [e3]; exact ho2.base hc12.size, hap, hc12.trans0 hch⟩

