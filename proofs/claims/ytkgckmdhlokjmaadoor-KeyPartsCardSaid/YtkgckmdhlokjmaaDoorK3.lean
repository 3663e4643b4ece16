/-
  Walks through the given program: each theorem fnN says what the call of function N of the translation hands back, for all arguments that its premises describe, and that nothing that was there has turned.
-/
import Derived.Test.YtkgckmdhlokjmaaDoorK2
namespace Go.Proofs.YtkgckmdhlokjmaaDoor
open Go.Lane
open Go.Key

theorem fn15 (l : List UInt8) (hl : l.length ≤ 100000) (w : World) : Rets Tryd.prog 15 #[str l] w (fun v w' => v = .tuple #[str (aftS l), .bool (decide (aftB l))] ∧ Ch [] w w') := by
  refine Rets.of (n := 36) (vs := [_]) Tryd.func15 rfl rfl rfl ?_
  refine TC.seq ?_
  refine TC.region ?_
  refine TL.assign rfl rfl ?_
  refine TL.assign rfl rfl ?_
  refine TL.done ?_
  refine Thn.go ?_
  refine TC.seq ?_
  refine TC.block ?_
  have e0 : str l = str (l.take l.length) := by rw [List.take_length]
  rw [e0]
  refine TC.loop1 (fun (k : Nat) => [(0, str (l.take k))]) (fun k w' => k ≤ l.length ∧ aft l k = aft l l.length ∧ w' = w) (fun k => k) l.length (by repeat (first | exact trivial | refine ⟨rfl, ?_⟩)) (⟨by omega, rfl, rfl⟩) (fun k w' hH => ?_)
  obtain ⟨hk, haf, rfl⟩ := hH
  have hkt : (l.take k).length = k := by simp; omega
  refine TC.seq ?_
  refine TC.regionBool (d := 14) (p := (0 < k ∧ (l.getD (k - 1) 0).toNat = 255)) (fun K1 hK1 => ?_) ?_
  ·
    refine TL.move rfl rfl ?_
    refine TL.neqStr rfl rfl rfl ?_
    refine TL.em (fun e6 => ?_) (fun e6 => ?_)
    ·
      have hk0 : 0 < k := by
        rcases Nat.eq_zero_or_pos k with h | h
        · subst h; exact absurd rfl e6
        · exact h
      refine TL.move rfl rfl ?_
      refine TL.guardYes (d := 7) rfl rfl rfl ?_
      refine TL.move rfl rfl ?_
      refine TL.guardYes (d := 7) rfl rfl rfl ?_
      refine TL.move rfl rfl ?_
      refine TL.guardYes (d := 7) rfl rfl rfl ?_
      refine TL.lenStr Tryd.underlying9 rfl rfl ?_
      refine TL.guardYes (d := 7) rfl rfl rfl ?_
      refine TL.sub_i64 rfl rfl (by omega) (by omega) rfl ?_
      refine TL.guardYes (d := 7) rfl rfl rfl ?_
      refine TL.indexStr (l := l.take k) (j := k - 1) (b := l.getD (k - 1) 0) Tryd.underlying9 rfl rfl (by omega) (by rw [List.getElem?_take, if_pos (by omega)]; exact map_getD l (k - 1) 0 (by omega)) rfl ?_
      refine TL.guardYes (d := 7) rfl rfl rfl ?_
      refine TL.eql rfl rfl rfl ?_
      refine TL.pickT rfl rfl rfl rfl ?_
      refine TL.done ?_
      refine hK1 _ ?_
      refine Le.here rfl (by first | exact decide_eq_true (by omega) | exact decide_eq_false (by omega) | exact decide_eq_decide.2 (by omega) | exact decide_eq_true (by grind) | exact decide_eq_false (by grind) | exact decide_eq_decide.2 (by grind)) ?_
      repeat (first | exact Le.refl _ | refine Le.skip rfl ?_)
    ·
      have hk0 : k = 0 := by have h := congrArg List.length (Classical.not_not.1 e6); rw [hkt] at h; exact h
      refine TL.move rfl rfl ?_
      refine TL.guardNo (d := 7) rfl rfl rfl rfl rfl ?_
      refine TL.guardNo (d := 7) rfl rfl rfl rfl rfl ?_
      refine TL.guardNo (d := 7) rfl rfl rfl rfl rfl ?_
      refine TL.guardNo (d := 7) rfl rfl rfl rfl rfl ?_
      refine TL.guardNo (d := 7) rfl rfl rfl rfl rfl ?_
      refine TL.guardNo (d := 7) rfl rfl rfl rfl rfl ?_
      refine TL.pickF rfl rfl rfl rfl ?_
      refine TL.done ?_
      refine hK1 _ ?_
      refine Le.here rfl (by first | exact decide_eq_true (by omega) | exact decide_eq_false (by omega) | exact decide_eq_decide.2 (by omega) | exact decide_eq_true (by grind) | exact decide_eq_false (by grind) | exact decide_eq_decide.2 (by grind)) ?_
      repeat (first | exact Le.refl _ | refine Le.skip rfl ?_)
  refine TC.condP rfl (fun h3 => ?_) (fun h3 => ?_)
  ·
    refine TC.skip ?_
    refine Thn.go ?_
    refine TC.block ?_
    refine TC.region ?_
    refine TL.move rfl rfl ?_
    refine TL.move rfl rfl ?_
    refine TL.lenStr Tryd.underlying9 rfl rfl ?_
    refine TL.sub_i64 rfl rfl (by omega) (by omega) rfl ?_
    refine TL.strTo (j := k - 1) Tryd.underlying9 rfl rfl (by omega) (by omega) rfl ?_
    refine TL.top (v' := str (l.take (k - 1))) (by rw [List.take_take, Nat.min_eq_left (by omega)]) ?_
    refine TL.assign rfl rfl ?_
    refine TL.done ?_
    refine Blk.go ?_
    refine Lp.go (k - 1) (by repeat (first | exact trivial | refine ⟨rfl, ?_⟩)) ?_ (by first | omega | (dsimp only; omega))
    exact ⟨by omega, by rw [← aft_step h3.1 h3.2]; exact haf, rfl⟩
  ·
    have hN : aft l l.length = k := by rw [← haf]; exact aft_stop h3
    refine TC.exit ?_
    refine Thn.exit ?_
    refine Lp.exit ?_
    refine Blk.hit ?_
    refine Thn.go ?_
    refine TC.seq ?_
    refine TC.seq ?_
    refine TC.region ?_
    refine TL.move rfl rfl ?_
    refine TL.lenStr Tryd.underlying9 rfl rfl ?_
    refine TL.assign rfl rfl ?_
    refine TL.done ?_
    refine Thn.go ?_
    refine TC.seq ?_
    refine TC.region ?_
    refine TL.move rfl rfl ?_
    refine TL.gtr rfl rfl rfl ?_
    refine TL.done ?_
    refine Thn.go ?_
    refine TC.condP rfl (fun h4 => ?_) (fun h4 => ?_)
    ·
      have hk0 : 0 < k := by omega
      refine TC.seq ?_
      refine TC.regionH (fun w2 => Ch [] w' w2) mixed0 ?_
      have hS : (fun w2 => Ch [] w' w2) _ := Ch.drew _ _
      refine TH.take (i := 0) rfl rfl rfl rfl rfl (by kernel_rfl) (by kernel_rfl) (by kernel_rfl) hS (fun w2 hw2 => TL.move rfl rfl (TL.done ⟨rfl, rfl⟩)) ?_
      refine TH.take (i := 1) rfl rfl rfl rfl rfl (by kernel_rfl) (by kernel_rfl) (by kernel_rfl) hS (fun w2 hw2 => TL.move rfl rfl (TL.done ⟨rfl, rfl⟩)) ?_
      refine TH.take (i := 2) rfl rfl rfl rfl rfl (by kernel_rfl) (by kernel_rfl) (by kernel_rfl) hS (fun w2 hw2 => TL.sub_i64 rfl rfl (by omega) (by omega) rfl (TL.done ⟨rfl, rfl⟩)) ?_
      refine TH.take (i := 3) rfl rfl rfl rfl rfl (by kernel_rfl) (by kernel_rfl) (by kernel_rfl) hS (fun w2 hw2 => TL.strTo (j := k - 1) Tryd.underlying9 rfl rfl (by omega) (by omega) rfl (TL.done ⟨rfl, rfl⟩)) ?_
      refine TH.take (i := 4) rfl rfl rfl rfl rfl (by kernel_rfl) (by kernel_rfl) (by kernel_rfl) hS (fun w2 hw2 => TL.move rfl rfl (TL.done ⟨rfl, rfl⟩)) ?_
      refine TH.take (i := 5) rfl rfl rfl rfl rfl (by kernel_rfl) (by kernel_rfl) (by kernel_rfl) hS (fun w2 hw2 => TL.move rfl rfl (TL.done ⟨rfl, rfl⟩)) ?_
      refine TH.take (i := 6) rfl rfl rfl rfl rfl (by kernel_rfl) (by kernel_rfl) (by kernel_rfl) hS (fun w2 hw2 => TL.sub_i64 rfl rfl (by omega) (by omega) rfl (TL.done ⟨rfl, rfl⟩)) ?_
      refine TH.take (i := 7) rfl rfl rfl rfl rfl (by kernel_rfl) (by kernel_rfl) (by kernel_rfl) hS (fun w2 hw2 => TL.indexStr (l := l.take k) (j := k - 1) (b := l.getD (k - 1) 0) Tryd.underlying9 rfl rfl (by omega) (by rw [List.getElem?_take, if_pos (by omega)]; exact map_getD l (k - 1) 0 (by omega)) rfl (TL.done ⟨rfl, rfl⟩)) ?_
      refine TH.take (i := 8) rfl rfl rfl rfl rfl (by kernel_rfl) (by kernel_rfl) (by kernel_rfl) hS (fun w2 hw2 => TL.add_u8 (b := 1) rfl rfl rfl (TL.done ⟨rfl, rfl⟩)) ?_
      refine TH.one (i := 9) (by kernel_rfl) rfl rfl ?_
      refine TL.buildSlice [.tmp 32] sl37 rfl rfl rfl (by decide) (by first | simp [Value.cells]; done | simp [Value.cells, cl_len]; done) rfl (fun w33 hb33 hc33 hz33 => ?_)
      have hS : (fun w2 => Ch [] w' w2) _ := hS.trans0 hc33
      refine TL.done ⟨hS, ?_⟩
      refine TH.one (i := 10) (by kernel_rfl) rfl rfl ?_
      refine TL.bytesToStr (l := [l.getD (k - 1) 0 + 1]) Tryd.underlying37 Tryd.underlying5 Tryd.underlying9 rfl (Rd.byte _ hb33) rfl ?_
      have hS : (fun w2 => Ch [] w' w2) _ := hS
      refine TL.done ⟨hS, ?_⟩
      refine TH.take (i := 11) rfl rfl rfl rfl rfl (by kernel_rfl) (by kernel_rfl) (by kernel_rfl) hS (fun w2 hw2 => TL.addStr rfl rfl (by simp; omega) rfl (TL.done ⟨rfl, rfl⟩)) ?_
      refine TH.take (i := 12) rfl rfl rfl rfl rfl (by kernel_rfl) (by kernel_rfl) (by kernel_rfl) hS (fun w2 hw2 => TL.assign rfl rfl (TL.done ⟨rfl, rfl⟩)) ?_
      refine TH.take (i := 13) rfl rfl rfl rfl rfl (by kernel_rfl) (by kernel_rfl) (by kernel_rfl) hS (fun w2 hw2 => TL.assign rfl rfl (TL.done ⟨rfl, rfl⟩)) ?_
      refine TH.done (by kernel_rfl) ?_
      refine Thn.go ?_
      refine TC.ret ?_
      refine Thn.ret ?_
      refine Ends.ret [2, 3] rfl rfl ?_
      exact ⟨by rw [List.take_take, Nat.min_eq_left (by omega)]; unfold aftS; rw [hN, if_neg (by omega), decide_eq_true (show aftB l by unfold aftB; omega)]; rfl, hS⟩
    ·
      have hk0 : k = 0 := by omega
      refine TC.skip ?_
      refine Thn.go ?_
      refine TC.seq ?_
      refine TC.region ?_
      refine TL.assign rfl rfl ?_
      refine TL.assign rfl rfl ?_
      refine TL.done ?_
      refine Thn.go ?_
      refine TC.ret ?_
      refine Ends.ret [2, 3] rfl rfl ?_
      exact ⟨by unfold aftS; rw [hN, if_pos hk0, decide_eq_false (show ¬ aftB l by unfold aftB; omega)]; rfl, Ch.refl _ _⟩

