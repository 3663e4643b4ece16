/-
  Walks through the given program: each theorem fnN says what the call of function N of the translation hands back, for all arguments that its premises describe, and that nothing that was there has turned.
-/
import Derived.Test.YtemfaondlhglbaaT3
import Derived.Test.YtemfaondlhglbaaTm2
namespace Go.Proofs.Ytemfaondlhglbaa
open Go.Lane
theorem can14 : Callable Try.prog 14 := ⟨Try.f14, Try.func14, by kernel_rfl, rfl⟩
theorem can32 : Callable Try.prog 32 := ⟨Try.f32, Try.func32, by kernel_rfl, rfl⟩
theorem can33 : Callable Try.prog 33 := ⟨Try.f33, Try.func33, by kernel_rfl, rfl⟩
theorem apartOf {wA wB : World} {bA bB s1 s2 n1 n2 : Nat} {e1 e2 : TypeId} {v1 v2 : Value} {c1 c2 : List Value} (h1 : Own wA bA e1 s1 v1 n1 c1) (hs : wA.heap.size ≤ bB) (h2 : Own wB bB e2 s2 v2 n2 c2) : Apart v1 v2 := fun b k1 k2 => Own.away h1 hs h2 b k2 (by simp [blk, k1])

theorem fn13 (a : Value) (l : List Tm.Timer) (m : Int) (w : World) (ha : Rd w a 5 l.length (l.flatMap cl)) : Rets Try.prog 13 #[a, .int .i64 m] w (fun v w' => ∃ r s, v = .tuple #[r, s, .int .i64 (Tm.dueE l m : Int)] ∧ Own w' w.heap.size 27 5 r (Tm.dueL l m).length ((Tm.dueL l m).flatMap cl) ∧ Own w' w.heap.size 27 5 s (Tm.restL l m).length ((Tm.restL l m).flatMap cl) ∧ Apart r s ∧ Ch [] w w') := by
  obtain ⟨ad, c, rfl, _⟩ := ha.shape
  have hcap := ha.cap
  refine Rets.of (n := 35) (vs := [_, _]) Try.func13 rfl rfl rfl ?_
  refine TC.seq ?_
  refine TC.region ?_
  refine TL.box rfl rfl (fun w3 hb3 hc3 hz3 => ?_)
  replace hb3 : Has w3 w.heap.size #[.int .i64 m] 3 (0, 0) := hb3
  refine TL.assign rfl rfl ?_
  refine TL.assign rfl rfl ?_
  refine TL.assign rfl rfl ?_
  refine TL.done ?_
  refine Thn.go ?_
  refine TC.seq ?_
  refine TC.seq ?_
  refine TC.region ?_
  refine TL.move rfl rfl ?_
  refine TL.call can14 rfl rfl (fn14 _ l w3 (ha.ch0 hc3)) (fun v10 w10 hr10 => ?_)
  obtain ⟨rfl, hc10⟩ := hr10
  have q10 := hc3.trans0 hc10
  have hbx := hb3.ch0 hc10
  refine TL.assign rfl rfl ?_
  refine TL.done ?_
  refine Thn.go ?_
  refine TC.seq ?_
  refine TC.region ?_
  refine TL.move rfl rfl ?_
  refine TL.neq rfl rfl rfl ?_
  refine TL.done ?_
  refine Thn.go ?_
  refine TC.condP rfl (fun h1 => ?_) (fun h1 => ?_)
  ·
    obtain ⟨e1, e2, e3⟩ := Tm.due_check (m := m) (show Tm.checkE l ≠ 0 by omega)
    refine TC.seq ?_
    refine TC.region ?_
    refine TL.move rfl rfl ?_
    refine TL.assign rfl rfl ?_
    refine TL.assign rfl rfl ?_
    refine TL.assign rfl rfl ?_
    refine TL.done ?_
    refine Thn.go ?_
    refine TC.ret ?_
    refine Thn.ret ?_
    refine Ends.ret [4, 5, 6] rfl rfl ?_
    exact ⟨_, _, by rw [e1]; rfl, by rw [e2]; exact World.ownsRow_nil _ _ _ _, by rw [e3]; exact World.ownsRow_nil _ _ _ _, Apart.nil _, q10⟩
  ·
    have h0 : Tm.checkE l = 0 := by omega
    obtain ⟨hlen, hgood⟩ := Tm.check_zero h0
    refine TC.skip ?_
    refine Thn.go ?_
    refine TC.seq ?_
    refine TC.regionBool (d := 19) (p := (m < 0 ∨ 1099511627776 < m)) (fun K2 hK2 => ?_) ?_
    ·
      refine TL.load pl3 rfl (hbx.cell 0) rfl ?_
      refine TL.lss rfl rfl rfl ?_
      refine TL.em (fun e15 => ?_) (fun e15 => ?_)
      ·
        refine TL.move rfl rfl ?_
        refine TL.guardNo (d := 16) rfl rfl rfl rfl rfl ?_
        refine TL.guardNo (d := 16) rfl rfl rfl rfl rfl ?_
        refine TL.pickT rfl rfl rfl rfl ?_
        refine TL.done ?_
        refine hK2 _ ?_
        refine Le.here rfl (by first | exact decide_eq_true (by omega) | exact decide_eq_false (by omega) | exact decide_eq_decide.2 (by omega) | exact decide_eq_true (by grind) | exact decide_eq_false (by grind) | exact decide_eq_decide.2 (by grind)) ?_
        repeat (first | exact Le.refl _ | refine Le.skip rfl ?_)
      ·
        refine TL.move rfl rfl ?_
        refine TL.guardYes (d := 16) rfl rfl rfl ?_
        refine TL.load pl3 rfl (hbx.cell 0) rfl ?_
        refine TL.guardYes (d := 16) rfl rfl rfl ?_
        refine TL.gtr rfl rfl rfl ?_
        refine TL.pickF rfl rfl rfl rfl ?_
        refine TL.done ?_
        refine hK2 _ ?_
        refine Le.here rfl (by first | exact decide_eq_true (by omega) | exact decide_eq_false (by omega) | exact decide_eq_decide.2 (by omega) | exact decide_eq_true (by grind) | exact decide_eq_false (by grind) | exact decide_eq_decide.2 (by grind)) ?_
        repeat (first | exact Le.refl _ | refine Le.skip rfl ?_)
    refine TC.condP rfl (fun h4 => ?_) (fun h4 => ?_)
    ·
      obtain ⟨e1, e2, e3⟩ := Tm.due_arg (m := m) h0 (by assumption)
      refine TC.seq ?_
      refine TC.region ?_
      refine TL.assign rfl rfl ?_
      refine TL.assign rfl rfl ?_
      refine TL.assign rfl rfl ?_
      refine TL.done ?_
      refine Thn.go ?_
      refine TC.ret ?_
      refine Thn.ret ?_
      refine Ends.ret [4, 5, 6] rfl rfl ?_
      exact ⟨_, _, by rw [e1]; rfl, by rw [e2]; exact World.ownsRow_nil _ _ _ _, by rw [e3]; exact World.ownsRow_nil _ _ _ _, Apart.nil _, q10⟩
    ·
      obtain ⟨e1, e2, e3⟩ := Tm.due_ok (m := m) h0 (by assumption)
      refine TC.skip ?_
      refine Thn.go ?_
      refine TC.seq ?_
      refine TC.region ?_
      refine TL.move rfl rfl ?_
      refine TL.makeFn (cs := [.tmp 3]) (vs := [_]) rfl rfl ?_
      refine TL.call can31 rfl rfl (fn31 _ l 32 #[.pointer (some ⟨w.heap.size, 0, none⟩)] (fun x => x.at_ > m) can32 w10 (ha.ch0 q10) (fun x w2 h2 => by simpa using fn32 x _ m w2 (hbx.ch0 h2))) (fun v22 w22 hr22 => ?_)
      obtain ⟨⟨k, rfl, hk⟩, hc22⟩ := hr22
      have q22 := q10.trans0 hc22
      refine TL.assign rfl rfl ?_
      refine TL.done ?_
      refine Thn.go ?_
      refine TC.cut1 (fun (i : Nat) => [(0, .slice ad l.length c), (8, .int .i64 (i : Int))]) (fun i w4 => i ≤ l.length ∧ (∀ j, j < i → j < l.length → (Tm.rec l j).at_ ≤ m) ∧ (∀ j, i ≤ j → j < l.length → m < (Tm.rec l j).at_) ∧ w22 = w4) (fun K5 hK5 => ?_) (fun i w4 hM => ?_)
      ·
        refine TC.seq ?_
        refine TC.region ?_
        refine TL.move rfl rfl ?_
        refine TL.lss rfl rfl rfl ?_
        refine TL.done ?_
        refine Thn.go ?_
        refine TC.condP rfl (fun h6 => ?_) (fun h6 => ?_)
        ·
          have hkn : ∀ j, j < l.length → ¬ (Tm.rec l j).at_ > m := by rcases hk with ⟨_, h⟩ | ⟨i, h, _⟩; exact h; omega
          refine TC.region ?_
          refine TL.move rfl rfl ?_
          refine TL.lenSlice Try.underlying25 rfl rfl ?_
          refine TL.assign rfl rfl ?_
          refine TL.done ?_
          exact hK5 l.length _ _ (by repeat (first | exact trivial | refine ⟨rfl, ?_⟩ | refine ⟨congrArg (fun b => some (Value.bool b)) (by first | exact (decide_eq_true (by grind)).symm | exact (decide_eq_false (by grind)).symm | exact decide_eq_decide.2 (by grind) | exact decide_eq_true (by grind) | exact decide_eq_false (by grind) | (exfalso; grind)), ?_⟩)) (⟨Nat.le_refl _, fun j _ hj => by have := hkn j hj; omega, fun j h1 h2 => by omega, rfl⟩)
        ·
          obtain ⟨i, rfl, hil, hpi, hpj⟩ : ∃ i : Nat, k = (i : Int) ∧ i < l.length ∧ (Tm.rec l i).at_ > m ∧ ∀ j, j < i → ¬ (Tm.rec l j).at_ > m := by rcases hk with ⟨h, _⟩ | h; omega; exact h
          refine TC.skip ?_
          exact hK5 i _ _ (by repeat (first | exact trivial | refine ⟨rfl, ?_⟩ | refine ⟨congrArg (fun b => some (Value.bool b)) (by first | exact (decide_eq_true (by grind)).symm | exact (decide_eq_false (by grind)).symm | exact decide_eq_decide.2 (by grind) | exact decide_eq_true (by grind) | exact decide_eq_false (by grind) | (exfalso; grind)), ?_⟩)) (⟨by omega, fun j hj _ => by have := hpj j hj; omega, fun j h1 h2 => by have := Tm.at_le hgood j i h1 h2; omega, rfl⟩)
      ·
        obtain ⟨hil, hm1, hm2, rfl⟩ := hM
        obtain ⟨s1, s2⟩ := Tm.split_at hm1 hm2
        have haa := ha.ch0 q22
        refine TC.seq ?_
        refine TC.regionH (fun w4 => Ch [] w22 w4) mixed0 ?_
        have hS : (fun w4 => Ch [] w22 w4) _ := Ch.drew [] _
        refine TH.take (i := 0) rfl rfl rfl rfl rfl (by kernel_rfl) (by kernel_rfl) (by kernel_rfl) hS (fun w2 hw2 => TL.move rfl rfl (TL.done ⟨rfl, rfl⟩)) ?_
        refine TH.take (i := 1) rfl rfl rfl rfl rfl (by kernel_rfl) (by kernel_rfl) (by kernel_rfl) hS (fun w2 hw2 => TL.move rfl rfl (TL.done ⟨rfl, rfl⟩)) ?_
        refine TH.take (i := 2) rfl rfl rfl rfl rfl (by kernel_rfl) (by kernel_rfl) (by kernel_rfl) hS (fun w2 hw2 => TL.sliceTo (i) sl25 rfl rfl (by first | rfl | omega) (by omega) rfl (TL.done ⟨rfl, rfl⟩)) ?_
        refine TH.take (i := 4) rfl rfl rfl rfl rfl (by kernel_rfl) (by kernel_rfl) (by kernel_rfl) hS (fun w2 hw2 => TL.move rfl rfl (TL.done ⟨rfl, rfl⟩)) ?_
        refine TH.take (i := 5) rfl rfl rfl rfl rfl (by kernel_rfl) (by kernel_rfl) (by kernel_rfl) hS (fun w2 hw2 => TL.move rfl rfl (TL.done ⟨rfl, rfl⟩)) ?_
        refine TH.take (i := 6) rfl rfl rfl rfl rfl (by kernel_rfl) (by kernel_rfl) (by kernel_rfl) hS (fun w2 hw2 => TL.sliceFrom (i) sl25 rfl rfl (by first | rfl | omega) (by omega) rfl (TL.done ⟨rfl, rfl⟩)) ?_
        refine TH.one (i := 3) (by kernel_rfl) rfl rfl ?_
        refine TL.call can33 rfl rfl (fn33 _ (l.take i) (by rw [List.length_take]; omega) _ (Rd.ch0 (prefixRd haa hil) hS)) (fun v30 w30 hr30 => ?_)
        obtain ⟨hv30, hc30⟩ := hr30
        have hS : (fun w4 => Ch [] w22 w4) _ := Ch.trans0 hS hc30
        refine TL.done ⟨hS, ?_⟩
        refine TH.one (i := 7) (by kernel_rfl) rfl rfl ?_
        refine TL.call can33 rfl rfl (fn33 _ (l.drop i) (by rw [List.length_drop]; omega) _ (Rd.ch0 (suffixRd haa hil) hS)) (fun v34 w34 hr34 => ?_)
        obtain ⟨hv34, hc34⟩ := hr34
        have hS : (fun w4 => Ch [] w22 w4) _ := Ch.trans0 hS hc34
        refine TL.done ⟨hS, ?_⟩
        refine TH.take (i := 8) rfl rfl rfl rfl rfl (by kernel_rfl) (by kernel_rfl) (by kernel_rfl) hS (fun w2 hw2 => TL.assign rfl rfl (TL.done ⟨rfl, rfl⟩)) ?_
        refine TH.take (i := 9) rfl rfl rfl rfl rfl (by kernel_rfl) (by kernel_rfl) (by kernel_rfl) hS (fun w2 hw2 => TL.assign rfl rfl (TL.done ⟨rfl, rfl⟩)) ?_
        refine TH.take (i := 10) rfl rfl rfl rfl rfl (by kernel_rfl) (by kernel_rfl) (by kernel_rfl) hS (fun w2 hw2 => TL.assign rfl rfl (TL.done ⟨rfl, rfl⟩)) ?_
        refine TH.done (by kernel_rfl) ?_
        have g9 : Ch [] w w34 := Ch.trans0 q22 hS
        refine Thn.go ?_
        refine TC.ret ?_
        refine Ends.ret [4, 5, 6] rfl rfl ?_
        exact ⟨_, _, by rw [e1]; rfl, by rw [e2, s1]; exact (hv30.ch0 hc34).base (Ch.trans0 q22 (Ch.drew [] _)).size, by rw [e3, s2]; exact hv34.base (Ch.trans0 (Ch.trans0 q22 (Ch.drew [] _)) hc30).size, apartOf hv30 (Nat.le_refl _) hv34, g9⟩

