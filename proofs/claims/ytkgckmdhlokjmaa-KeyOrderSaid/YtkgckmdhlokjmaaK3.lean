/-
  Walks through the given program: each theorem fnN says what the call of function N of the translation hands back, for all arguments that its premises describe, and that nothing that was there has turned.
-/
import Derived.Test.YtkgckmdhlokjmaaK2
namespace Go.Proofs.Ytkgckmdhlokjmaa
open Go.Lane
open Go.Key

theorem fn4 (l : List UInt8) (hl : l.length ≤ 100000) (w : World) : Rets Try.prog 4 #[str l] w (fun v w' => v = .tuple #[str (aftS l), .bool (decide (aftB l))] ∧ Ch [] w w') := by
  refine Rets.of (n := 36) (vs := [_]) Try.func4 rfl rfl rfl ?_
  refine TC.seq ?_
  refine TC.region ?_
  refine TL.assign rfl rfl ?_
  refine TL.assign rfl rfl ?_
  refine TL.done ?_
  refine Thn.go ?_
  refine TC.seq ?_
  refine TC.block ?_
  have e0 : str l = str (l.take l.length) := by rw [List.take_length]
  rw [e0]
  refine TC.loop1 (fun (k : Nat) => [(0, str (l.take k))]) (fun k w' => k ≤ l.length ∧ aft l k = aft l l.length ∧ w' = w) (fun k => k) l.length (by repeat (first | exact trivial | refine ⟨rfl, ?_⟩)) (⟨by omega, rfl, rfl⟩) (fun k w' hH => ?_)
  obtain ⟨hk, haf, rfl⟩ := hH
  have hkt : (l.take k).length = k := by simp; omega
  refine TC.seq ?_
  refine TC.regionBool (d := 14) (p := (0 < k ∧ (l.getD (k - 1) 0).toNat = 255)) (fun K1 hK1 => ?_) ?_
  ·
    refine TL.move rfl rfl ?_
    refine TL.neqStr rfl rfl rfl ?_
    refine TL.em (fun e6 => ?_) (fun e6 => ?_)
    ·
      have hk0 : 0 < k := by
        rcases Nat.eq_zero_or_pos k with h | h
        · subst h; exact absurd rfl e6
        · exact h
      refine TL.move rfl rfl ?_
      refine TL.guardYes (d := 7) rfl rfl rfl ?_
      refine TL.move rfl rfl ?_
      refine TL.guardYes (d := 7) rfl rfl rfl ?_
      refine TL.move rfl rfl ?_
      refine TL.guardYes (d := 7) rfl rfl rfl ?_
      refine TL.lenStr Try.underlying9 rfl rfl ?_
      refine TL.guardYes (d := 7) rfl rfl rfl ?_
      refine TL.sub_i64 rfl rfl (by omega) (by omega) rfl ?_
      refine TL.guardYes (d := 7) rfl rfl rfl ?_
      refine TL.indexStr (l := l.take k) (j := k - 1) (b := l.getD (k - 1) 0) Try.underlying9 rfl rfl (by omega) (by rw [List.getElem?_take, if_pos (by omega)]; exact map_getD l (k - 1) 0 (by omega)) rfl ?_
      refine TL.guardYes (d := 7) rfl rfl rfl ?_
      refine TL.eql rfl rfl rfl ?_
      refine TL.pickT rfl rfl rfl rfl ?_
      refine TL.done ?_
      refine hK1 _ ?_
      refine Le.here rfl (by first | exact decide_eq_true (by omega) | exact decide_eq_false (by omega) | exact decide_eq_decide.2 (by omega)) ?_
      repeat (first | exact Le.refl _ | refine Le.skip rfl ?_)
    ·
      have hk0 : k = 0 := by have h := congrArg List.length (Classical.not_not.1 e6); rw [hkt] at h; exact h
      refine TL.move rfl rfl ?_
      refine TL.guardNo (d := 7) rfl rfl rfl rfl rfl ?_
      refine TL.guardNo (d := 7) rfl rfl rfl rfl rfl ?_
      refine TL.guardNo (d := 7) rfl rfl rfl rfl rfl ?_
      refine TL.guardNo (d := 7) rfl rfl rfl rfl rfl ?_
      refine TL.guardNo (d := 7) rfl rfl rfl rfl rfl ?_
      refine TL.guardNo (d := 7) rfl rfl rfl rfl rfl ?_
      refine TL.pickF rfl rfl rfl rfl ?_
      refine TL.done ?_
      refine hK1 _ ?_
      refine Le.here rfl (by first | exact decide_eq_true (by omega) | exact decide_eq_false (by omega) | exact decide_eq_decide.2 (by omega)) ?_
      repeat (first | exact Le.refl _ | refine Le.skip rfl ?_)
  refine TC.condP rfl (fun h3 => ?_) (fun h3 => ?_)
  ·
    refine TC.skip ?_
    refine Thn.go ?_
    refine TC.block ?_
    refine TC.region ?_
    refine TL.move rfl rfl ?_
    refine TL.move rfl rfl ?_
    refine TL.lenStr Try.underlying9 rfl rfl ?_
    refine TL.sub_i64 rfl rfl (by omega) (by omega) rfl ?_
    refine TL.strTo (j := k - 1) Try.underlying9 rfl rfl (by omega) (by omega) rfl ?_
    refine TL.top (v' := str (l.take (k - 1))) (by rw [List.take_take, Nat.min_eq_left (by omega)]) ?_
    refine TL.assign rfl rfl ?_
    refine TL.done ?_
    refine Blk.go ?_
    refine Lp.go (k - 1) (by repeat (first | exact trivial | refine ⟨rfl, ?_⟩)) ?_ (by first | omega | (dsimp only; omega))
    exact ⟨by omega, by rw [← aft_step h3.1 h3.2]; exact haf, rfl⟩
  ·
    have hN : aft l l.length = k := by rw [← haf]; exact aft_stop h3
    refine TC.exit ?_
    refine Thn.exit ?_
    refine Lp.exit ?_
    refine Blk.hit ?_
    refine Thn.go ?_
    refine TC.seq ?_
    refine TC.seq ?_
    refine TC.region ?_
    refine TL.move rfl rfl ?_
    refine TL.lenStr Try.underlying9 rfl rfl ?_
    refine TL.assign rfl rfl ?_
    refine TL.done ?_
    refine Thn.go ?_
    refine TC.seq ?_
    refine TC.region ?_
    refine TL.move rfl rfl ?_
    refine TL.gtr rfl rfl rfl ?_
    refine TL.done ?_
    refine Thn.go ?_
    refine TC.condP rfl (fun h4 => ?_) (fun h4 => ?_)
    ·
      have hk0 : 0 < k := by omega
      refine TC.seq ?_
      refine TC.regionH (fun w2 => Ch [] w' w2) mixed0 ?_
      have hS : (fun w2 => Ch [] w' w2) _ := Ch.drew _ _
      refine TH.take (i := 0) rfl rfl rfl rfl rfl (by kernel_rfl) (by kernel_rfl) (by kernel_rfl) hS (fun w2 hw2 => TL.move rfl rfl (TL.done ⟨rfl, rfl⟩)) ?_
      refine TH.take (i := 1) rfl rfl rfl rfl rfl (by kernel_rfl) (by kernel_rfl) (by kernel_rfl) hS (fun w2 hw2 => TL.move rfl rfl (TL.done ⟨rfl, rfl⟩)) ?_
      refine TH.take (i := 2) rfl rfl rfl rfl rfl (by kernel_rfl) (by kernel_rfl) (by kernel_rfl) hS (fun w2 hw2 => TL.sub_i64 rfl rfl (by omega) (by omega) rfl (TL.done ⟨rfl, rfl⟩)) ?_
      refine TH.take (i := 3) rfl rfl rfl rfl rfl (by kernel_rfl) (by kernel_rfl) (by kernel_rfl) hS (fun w2 hw2 => TL.strTo (j := k - 1) Try.underlying9 rfl rfl (by omega) (by omega) rfl (TL.done ⟨rfl, rfl⟩)) ?_
      refine TH.take (i := 4) rfl rfl rfl rfl rfl (by kernel_rfl) (by kernel_rfl) (by kernel_rfl) hS (fun w2 hw2 => TL.move rfl rfl (TL.done ⟨rfl, rfl⟩)) ?_
      refine TH.take (i := 5) rfl rfl rfl rfl rfl (by kernel_rfl) (by kernel_rfl) (by kernel_rfl) hS (fun w2 hw2 => TL.move rfl rfl (TL.done ⟨rfl, rfl⟩)) ?_
      refine TH.take (i := 6) rfl rfl rfl rfl rfl (by kernel_rfl) (by kernel_rfl) (by kernel_rfl) hS (fun w2 hw2 => TL.sub_i64 rfl rfl (by omega) (by omega) rfl (TL.done ⟨rfl, rfl⟩)) ?_
      refine TH.take (i := 7) rfl rfl rfl rfl rfl (by kernel_rfl) (by kernel_rfl) (by kernel_rfl) hS (fun w2 hw2 => TL.indexStr (l := l.take k) (j := k - 1) (b := l.getD (k - 1) 0) Try.underlying9 rfl rfl (by omega) (by rw [List.getElem?_take, if_pos (by omega)]; exact map_getD l (k - 1) 0 (by omega)) rfl (TL.done ⟨rfl, rfl⟩)) ?_
      refine TH.take (i := 8) rfl rfl rfl rfl rfl (by kernel_rfl) (by kernel_rfl) (by kernel_rfl) hS (fun w2 hw2 => TL.add_u8 (b := 1) rfl rfl rfl (TL.done ⟨rfl, rfl⟩)) ?_
      refine TH.one (i := 9) (by kernel_rfl) rfl rfl ?_
      refine TL.buildSlice [.tmp 32] sl27 rfl rfl rfl (by decide) (by simp [Value.cells]) rfl (fun w33 hb33 hc33 hz33 => ?_)
      have hS : (fun w2 => Ch [] w' w2) _ := hS.trans0 hc33
      refine TL.done ⟨hS, ?_⟩
      refine TH.one (i := 10) (by kernel_rfl) rfl rfl ?_
      refine TL.bytesToStr (l := [l.getD (k - 1) 0 + 1]) Try.underlying27 Try.underlying5 Try.underlying9 rfl (Rd.byte _ hb33) rfl ?_
      have hS : (fun w2 => Ch [] w' w2) _ := hS
      refine TL.done ⟨hS, ?_⟩
      refine TH.take (i := 11) rfl rfl rfl rfl rfl (by kernel_rfl) (by kernel_rfl) (by kernel_rfl) hS (fun w2 hw2 => TL.addStr rfl rfl (by simp; omega) rfl (TL.done ⟨rfl, rfl⟩)) ?_
      refine TH.take (i := 12) rfl rfl rfl rfl rfl (by kernel_rfl) (by kernel_rfl) (by kernel_rfl) hS (fun w2 hw2 => TL.assign rfl rfl (TL.done ⟨rfl, rfl⟩)) ?_
      refine TH.take (i := 13) rfl rfl rfl rfl rfl (by kernel_rfl) (by kernel_rfl) (by kernel_rfl) hS (fun w2 hw2 => TL.assign rfl rfl (TL.done ⟨rfl, rfl⟩)) ?_
      refine TH.done (by kernel_rfl) ?_
      refine Thn.go ?_
      refine TC.ret ?_
      refine Thn.ret ?_
      refine Ends.ret [2, 3] rfl rfl ?_
      exact ⟨by rw [List.take_take, Nat.min_eq_left (by omega)]; unfold aftS; rw [hN, if_neg (by omega), decide_eq_true (show aftB l by unfold aftB; omega)]; rfl, hS⟩
    ·
      have hk0 : k = 0 := by omega
      refine TC.skip ?_
      refine Thn.go ?_
      refine TC.seq ?_
      refine TC.region ?_
      refine TL.assign rfl rfl ?_
      refine TL.assign rfl rfl ?_
      refine TL.done ?_
      refine Thn.go ?_
      refine TC.ret ?_
      refine Ends.ret [2, 3] rfl rfl ?_
      exact ⟨by unfold aftS; rw [hN, if_pos hk0, decide_eq_false (show ¬ aftB l by unfold aftB; omega)]; rfl, Ch.refl _ _⟩

theorem fn5 (l : List UInt8) (hl : l.length ≤ 100000) (w : World) : Rets Try.prog 5 #[str l] w (fun v w' => v = .tuple #[str (aftS l), .bool (decide (aftB l))] ∧ Ch [] w w') := by
  have hmm : maxLen = 9223372036854775807 := rfl
  refine Rets.of (n := 30) (vs := [_]) Try.func5 rfl rfl rfl ?_
  refine TC.seq ?_
  refine TC.region ?_
  refine TL.assign rfl rfl ?_
  refine TL.assign rfl rfl ?_
  refine TL.done ?_
  refine Thn.go ?_
  refine TC.seq ?_
  refine TC.seq ?_
  refine TC.region ?_
  refine TL.move rfl rfl ?_
  refine TL.lenStr Try.underlying9 rfl rfl ?_
  refine TL.assign rfl rfl ?_
  refine TL.done ?_
  refine Thn.go ?_
  refine TC.block ?_
  refine TC.loop1 (fun (k : Nat) => [(0, str l), (4, .int .i64 (k : Int))]) (fun k w' => k ≤ l.length ∧ aft l k = aft l l.length ∧ w' = w) (fun k => k) l.length (by repeat (first | exact trivial | refine ⟨rfl, ?_⟩)) (⟨by omega, rfl, rfl⟩) (fun k w' hH => ?_)
  obtain ⟨hk, haf, rfl⟩ := hH
  have hkt : (l.take k).length = k := by simp; omega
  refine TC.seq ?_
  refine TC.seq ?_
  refine TC.region ?_
  refine TL.move rfl rfl ?_
  refine TL.gtr rfl rfl rfl ?_
  refine TL.done ?_
  refine Thn.go ?_
  refine TC.condP rfl (fun h1 => ?_) (fun h1 => ?_)
  ·
    have hk0 : 0 < k := by omega
    refine TC.skip ?_
    refine Thn.go ?_
    refine TC.seq ?_
    refine TC.block ?_
    refine TC.seq ?_
    refine TC.region ?_
    refine TL.move rfl rfl ?_
    refine TL.move rfl rfl ?_
    refine TL.sub_i64 rfl rfl (by omega) (by omega) rfl ?_
    refine TL.indexStr (l := l) (j := k - 1) (b := l.getD (k - 1) 0) Try.underlying9 rfl rfl (by omega) (map_getD l (k - 1) 0 (by omega)) rfl ?_
    refine TL.neq rfl rfl rfl ?_
    refine TL.done ?_
    refine Thn.go ?_
    refine TC.condP rfl (fun h2 => ?_) (fun h2 => ?_)
    ·
      have hN : aft l l.length = k := by rw [← haf]; exact aft_stop (by omega)
      refine TC.seq ?_
      refine TC.region ?_
      refine TL.move rfl rfl ?_
      refine TL.move rfl rfl ?_
      refine TL.strTo (j := k) Try.underlying9 rfl rfl rfl hk rfl ?_
      refine TL.strToBytes Try.underlying9 Try.underlying27 Try.underlying5 rfl (by omega) rfl (fun w3 c cur fr hb g1 g2 g3 g4 g5 hc hz => ?_)
      refine TL.assign rfl rfl ?_
      refine TL.done ?_
      refine Thn.go ?_
      refine TC.seq ?_
      refine TC.region ?_
      refine TL.move rfl rfl ?_
      refine TL.move rfl rfl ?_
      refine TL.sub_i64 rfl rfl (by omega) (by omega) rfl ?_
      refine TL.indexAddr (k - 1) sl27 rfl rfl (by first | rfl | omega) (by omega) rfl ?_
      refine TL.load pl5 rfl (by rw [hb.cell, Nat.zero_add, Nat.mul_one, ← Array.getElem?_toList, show cur.toList[k - 1]? = (cur.toList.take (l.take k).length)[k - 1]? by rw [List.getElem?_take, if_pos (by omega)], g4, List.getElem?_map, List.getElem?_take, if_pos (by omega), map_getD l (k - 1) 0 (by omega)]; rfl) rfl ?_
      refine TL.add_u8 (b := 1) rfl rfl rfl ?_
      refine TL.indexAddr (k - 1) sl27 rfl rfl (by first | rfl | omega) (by omega) rfl ?_
      refine TL.store sz5 rfl rfl rfl hb (by omega) (by simp [Value.cells, Value.oneCell']) (.inr (fun i q1 q2 q3 => by rw [g5] at q3; simp only at q3; omega)) (fun ws1 hbs1 hcs1 hzs1 => ?_)
      replace hbs1 := hbs1.setOne rfl (by omega)
      rw [Nat.zero_add, Nat.mul_one] at hbs1
      have hrd : Rd ws1 (.slice (some ⟨w'.heap.size, 0, none⟩) (l.take k).length c) 1 (l.take k).length ((l.take (k - 1) ++ [l.getD (k - 1) 0 + 1]).map u8) := by
        refine .inr ⟨_, 0, c, _, 5, fr, rfl, hbs1, g1, g2, by simp [g3], ?_⟩
        rw [List.drop_zero, Array.toList_setIfInBounds, Nat.mul_one, List.take_set, g4, set_last u8 hk0 hk]
      refine TL.done ?_
      refine Thn.go ?_
      refine TC.seq ?_
      refine TC.region ?_
      refine TL.move rfl rfl ?_
      refine TL.bytesToStr Try.underlying27 Try.underlying5 Try.underlying9 rfl (Rd.bytes _ hrd (by simp; omega) rfl) rfl ?_
      refine TL.assign rfl rfl ?_
      refine TL.assign rfl rfl ?_
      refine TL.done ?_
      refine Thn.go ?_
      refine TC.ret ?_
      refine Blk.ret ?_
      refine Thn.ret ?_
      refine Lp.ret ?_
      refine Blk.ret ?_
      refine Thn.ret ?_
      refine Ends.ret [2, 3] rfl rfl ?_
      exact ⟨by unfold aftS; rw [hN, if_neg (by omega), decide_eq_true (show aftB l by unfold aftB; omega)]; rfl, hc.then1 hcs1 (Nat.le_refl _)⟩
    ·
      have h255 : (l.getD (k - 1) 0).toNat = 255 := by omega
      refine TC.skip ?_
      refine Blk.go ?_
      refine Thn.go ?_
      refine TC.region ?_
      refine TL.move rfl rfl ?_
      refine TL.sub_i64 rfl rfl (by omega) (by omega) rfl ?_
      refine TL.top (v' := .int .i64 ((k - 1 : Nat) : Int)) (by congr 1; omega) ?_
      refine TL.assign rfl rfl ?_
      refine TL.done ?_
      refine Lp.go (k - 1) (by repeat (first | exact trivial | refine ⟨rfl, ?_⟩)) ?_ (by first | omega | (dsimp only; omega))
      exact ⟨by omega, by rw [← aft_step hk0 h255]; exact haf, rfl⟩
  ·
    have hk0 : k = 0 := by omega
    have hN : aft l l.length = 0 := by rw [← haf, hk0]; rfl
    refine TC.exit ?_
    refine Thn.exit ?_
    refine Lp.exit ?_
    refine Blk.hit ?_
    refine Thn.go ?_
    refine TC.seq ?_
    refine TC.region ?_
    refine TL.assign rfl rfl ?_
    refine TL.assign rfl rfl ?_
    refine TL.done ?_
    refine Thn.go ?_
    refine TC.ret ?_
    refine Ends.ret [2, 3] rfl rfl ?_
    exact ⟨by unfold aftS; rw [hN, if_pos rfl, decide_eq_false (show ¬ aftB l by unfold aftB; omega)]; rfl, Ch.refl _ _⟩

theorem fn3 (a : Value) (l : List Part) (b : Value) (m : List Part) (s : List UInt8) (w : World) (ha : Rd w a 3 l.length (l.flatMap cl)) (hb : Rd w b 3 m.length (m.flatMap cl)) : Rets Try.prog 3 #[a, b, str s] w (fun v w' => v = .bool true ∧ Ch [] w w') := by
  obtain ⟨ad, c, rfl, _⟩ := ha.shape
  obtain ⟨bd, d, rfl, _⟩ := hb.shape
  refine Rets.of (n := 60) (vs := [_, _, _]) Try.func3 rfl rfl rfl ?_
  refine TC.seq ?_
  refine TC.region ?_
  refine TL.assign rfl rfl ?_
  refine TL.done ?_
  refine Thn.go ?_
  refine TC.seq ?_
  refine TC.regionBool (d := 23) (p := (100 < l.length ∨ 100 < m.length ∨ 10000 < s.length)) (fun K1 hK1 => ?_) ?_
  ·
    refine TL.move rfl rfl ?_
    refine TL.lenSlice Try.underlying22 rfl rfl ?_
    refine TL.gtr rfl rfl rfl ?_
    refine TL.em (fun e13 => ?_) (fun e13 => ?_)
    ·
      refine TL.move rfl rfl ?_
      refine TL.guardNo (d := 14) rfl rfl rfl rfl rfl ?_
      refine TL.guardNo (d := 14) rfl rfl rfl rfl rfl ?_
      refine TL.guardNo (d := 14) rfl rfl rfl rfl rfl ?_
      refine TL.pickT rfl rfl rfl rfl ?_
      refine TL.move rfl rfl ?_
      refine TL.guardNo (d := 19) rfl rfl rfl rfl rfl ?_
      refine TL.guardNo (d := 19) rfl rfl rfl rfl rfl ?_
      refine TL.guardNo (d := 19) rfl rfl rfl rfl rfl ?_
      refine TL.pickT rfl rfl rfl rfl ?_
      refine TL.done ?_
      refine hK1 _ ?_
      refine Le.here rfl (by first | exact decide_eq_true (by omega) | exact decide_eq_false (by omega) | exact decide_eq_decide.2 (by omega)) ?_
      repeat (first | exact Le.refl _ | refine Le.skip rfl ?_)
    ·
      refine TL.move rfl rfl ?_
      refine TL.guardYes (d := 14) rfl rfl rfl ?_
      refine TL.move rfl rfl ?_
      refine TL.guardYes (d := 14) rfl rfl rfl ?_
      refine TL.lenSlice Try.underlying22 rfl rfl ?_
      refine TL.guardYes (d := 14) rfl rfl rfl ?_
      refine TL.gtr rfl rfl rfl ?_
      refine TL.em (fun e17 => ?_) (fun e17 => ?_)
      ·
        refine TL.pickF rfl rfl rfl rfl ?_
        refine TL.move rfl rfl ?_
        refine TL.guardNo (d := 19) rfl rfl rfl rfl rfl ?_
        refine TL.guardNo (d := 19) rfl rfl rfl rfl rfl ?_
        refine TL.guardNo (d := 19) rfl rfl rfl rfl rfl ?_
        refine TL.pickT rfl rfl rfl rfl ?_
        refine TL.done ?_
        refine hK1 _ ?_
        refine Le.here rfl (by first | exact decide_eq_true (by omega) | exact decide_eq_false (by omega) | exact decide_eq_decide.2 (by omega)) ?_
        repeat (first | exact Le.refl _ | refine Le.skip rfl ?_)
      ·
        refine TL.pickF rfl rfl rfl rfl ?_
        refine TL.move rfl rfl ?_
        refine TL.guardYes (d := 19) rfl rfl rfl ?_
        refine TL.move rfl rfl ?_
        refine TL.guardYes (d := 19) rfl rfl rfl ?_
        refine TL.lenStr Try.underlying9 rfl rfl ?_
        refine TL.guardYes (d := 19) rfl rfl rfl ?_
        refine TL.gtr rfl rfl rfl ?_
        refine TL.pickF rfl rfl rfl rfl ?_
        refine TL.done ?_
        refine hK1 _ ?_
        refine Le.here rfl (by first | exact decide_eq_true (by omega) | exact decide_eq_false (by omega) | exact decide_eq_decide.2 (by omega)) ?_
        repeat (first | exact Le.refl _ | refine Le.skip rfl ?_)
  refine TC.condP rfl (fun h4 => ?_) (fun h4 => ?_)
  ·
    refine TC.seq ?_
    refine TC.region ?_
    refine TL.assign rfl rfl ?_
    refine TL.done ?_
    refine Thn.go ?_
    refine TC.ret ?_
    refine Thn.ret ?_
    refine Ends.ret [6] rfl rfl ?_
    exact ⟨rfl, Ch.refl _ _⟩
  ·
    refine TC.skip ?_
    refine Thn.go ?_
    refine TC.seq ?_
    refine TC.region ?_
    refine TL.move rfl rfl ?_
    refine TL.call can4 rfl rfl (fn4 s (by omega) w) (fun v26 w26 hr26 => ?_)
    obtain ⟨rfl, hc26⟩ := hr26
    refine TL.move rfl rfl ?_
    refine TL.extract rfl rfl rfl ?_
    refine TL.extract rfl rfl rfl ?_
    refine TL.assign rfl rfl ?_
    refine TL.assign rfl rfl ?_
    refine TL.done ?_
    refine Thn.go ?_
    refine TC.seq ?_
    refine TC.region ?_
    refine TL.move rfl rfl ?_
    refine TL.call can5 rfl rfl (fn5 s (by omega) w26) (fun v31 w31 hr31 => ?_)
    obtain ⟨rfl, hc31⟩ := hr31
    have q31 := hc26.trans0 hc31
    refine TL.move rfl rfl ?_
    refine TL.extract rfl rfl rfl ?_
    refine TL.extract rfl rfl rfl ?_
    refine TL.assign rfl rfl ?_
    refine TL.assign rfl rfl ?_
    refine TL.done ?_
    refine Thn.go ?_
    refine TC.seq ?_
    refine TC.region ?_
    refine TL.move rfl rfl ?_
    refine TL.move rfl rfl ?_
    refine TL.call can6 rfl rfl (fn6 _ _ l m w31 (ha.ch0 q31) (hb.ch0 q31)) (fun v36 w36 hr36 => ?_)
    obtain ⟨rfl, hc36⟩ := hr36
    have q36 := q31.trans0 hc36
    refine TL.move rfl rfl ?_
    refine TL.move rfl rfl ?_
    refine TL.call can7 rfl rfl (fn7 _ _ l m w36 (ha.ch0 q36) (hb.ch0 q36)) (fun v39 w39 hr39 => ?_)
    obtain ⟨rfl, hc39⟩ := hr39
    have q39 := q36.trans0 hc39
    refine TL.eqlBool Try.underlying4 rfl rfl rfl ?_
    refine TL.yes (rfl) ?_
    refine TL.move rfl rfl ?_
    refine TL.guardYes (d := 41) rfl rfl rfl ?_
    refine TL.move rfl rfl ?_
    refine TL.guardYes (d := 41) rfl rfl rfl ?_
    refine TL.move rfl rfl ?_
    refine TL.guardYes (d := 41) rfl rfl rfl ?_
    refine TL.call can6 rfl rfl (fn6 _ _ m l w39 (hb.ch0 q39) (ha.ch0 q39)) (fun v44 w44 hr44 => ?_)
    obtain ⟨rfl, hc44⟩ := hr44
    have q44 := q39.trans0 hc44
    refine TL.guardYes (d := 41) rfl rfl rfl ?_
    refine TL.move rfl rfl ?_
    refine TL.guardYes (d := 41) rfl rfl rfl ?_
    refine TL.move rfl rfl ?_
    refine TL.guardYes (d := 41) rfl rfl rfl ?_
    refine TL.call can7 rfl rfl (fn7 _ _ m l w44 (hb.ch0 q44) (ha.ch0 q44)) (fun v47 w47 hr47 => ?_)
    obtain ⟨rfl, hc47⟩ := hr47
    refine TL.guardYes (d := 41) rfl rfl rfl ?_
    refine TL.eqlBool Try.underlying4 rfl rfl rfl ?_
    refine TL.yes (rfl) ?_
    refine TL.pickT rfl rfl rfl rfl ?_
    refine TL.move rfl rfl ?_
    refine TL.guardYes (d := 50) rfl rfl rfl ?_
    refine TL.move rfl rfl ?_
    refine TL.guardYes (d := 50) rfl rfl rfl ?_
    refine TL.move rfl rfl ?_
    refine TL.guardYes (d := 50) rfl rfl rfl ?_
    refine TL.eqlStr rfl rfl rfl ?_
    refine TL.yes (rfl) ?_
    refine TL.pickT rfl rfl rfl rfl ?_
    refine TL.move rfl rfl ?_
    refine TL.guardYes (d := 55) rfl rfl rfl ?_
    refine TL.move rfl rfl ?_
    refine TL.guardYes (d := 55) rfl rfl rfl ?_
    refine TL.move rfl rfl ?_
    refine TL.guardYes (d := 55) rfl rfl rfl ?_
    refine TL.eqlBool Try.underlying4 rfl rfl rfl ?_
    refine TL.yes (rfl) ?_
    refine TL.pickT rfl rfl rfl rfl ?_
    refine TL.assign rfl rfl ?_
    refine TL.done ?_
    refine Thn.go ?_
    refine TC.ret ?_
    refine Ends.ret [6] rfl rfl ?_
    exact ⟨rfl, q44.trans0 hc47⟩

