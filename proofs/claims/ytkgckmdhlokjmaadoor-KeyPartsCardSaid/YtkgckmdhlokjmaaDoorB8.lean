/-
  Walks through the given program: each theorem fnN says what the call of function N of the translation hands back, for all arguments that its premises describe, and that nothing that was there has turned.
-/
import Derived.Test.YtkgckmdhlokjmaaDoorB7
namespace Go.Proofs.YtkgckmdhlokjmaaDoor
open Go.Lane
open Go.Key
open Go.RowKit (Below)
theorem can9 : Callable Tryd.prog 9 := ⟨Tryd.f9, Tryd.func9, by kernel_rfl, rfl⟩

theorem fn8 (s more other : List UInt8) (w : World) (h : Sh w) : Rets Tryd.prog 8 #[str s, str more, str other] w (fun v w' => v = .bool true ∧ Ch [] w w') := by
  have hmm : maxLen = 9223372036854775807 := rfl
  refine Rets.of (n := 84) (vs := [_, _, _]) Tryd.func8 rfl rfl rfl ?_
  refine TC.seq ?_
  refine TC.region ?_
  refine TL.assign rfl rfl ?_
  refine TL.done ?_
  refine Thn.go ?_
  refine TC.seq ?_
  refine TC.region ?_
  refine TL.call can9 rfl rfl (fn9 w h) (fun v12 w12 hr12 => ?_)
  obtain ⟨rfl, hc12⟩ := hr12
  refine TL.assign rfl rfl ?_
  refine TL.done ?_
  refine Thn.go ?_
  refine TC.seq ?_
  refine TC.seq ?_
  refine TC.region ?_
  refine TL.move rfl rfl ?_
  refine TL.not rfl rfl ?_
  refine TL.done ?_
  refine Thn.go ?_
  refine TC.condF rfl rfl ?_
  refine TC.skip ?_
  refine Thn.go ?_
  refine TC.seq ?_
  refine TC.regionBool (d := 27) (p := (1000 < s.length ∨ 1000 < more.length ∨ 1000 < other.length)) (fun K2 hK2 => ?_) ?_
  ·
    refine TL.move rfl rfl ?_
    refine TL.lenStr Tryd.underlying9 rfl rfl ?_
    refine TL.gtr rfl rfl rfl ?_
    refine TL.em (fun e17 => ?_) (fun e17 => ?_)
    ·
      refine TL.move rfl rfl ?_
      refine TL.guardNo (d := 18) rfl rfl rfl rfl rfl ?_
      refine TL.guardNo (d := 18) rfl rfl rfl rfl rfl ?_
      refine TL.guardNo (d := 18) rfl rfl rfl rfl rfl ?_
      refine TL.pickT rfl rfl rfl rfl ?_
      refine TL.move rfl rfl ?_
      refine TL.guardNo (d := 23) rfl rfl rfl rfl rfl ?_
      refine TL.guardNo (d := 23) rfl rfl rfl rfl rfl ?_
      refine TL.guardNo (d := 23) rfl rfl rfl rfl rfl ?_
      refine TL.pickT rfl rfl rfl rfl ?_
      refine TL.done ?_
      refine hK2 _ ?_
      refine Le.here rfl (by first | exact decide_eq_true (by omega) | exact decide_eq_false (by omega) | exact decide_eq_decide.2 (by omega) | exact decide_eq_true (by grind) | exact decide_eq_false (by grind) | exact decide_eq_decide.2 (by grind)) ?_
      repeat (first | exact Le.refl _ | refine Le.skip rfl ?_)
    ·
      refine TL.move rfl rfl ?_
      refine TL.guardYes (d := 18) rfl rfl rfl ?_
      refine TL.move rfl rfl ?_
      refine TL.guardYes (d := 18) rfl rfl rfl ?_
      refine TL.lenStr Tryd.underlying9 rfl rfl ?_
      refine TL.guardYes (d := 18) rfl rfl rfl ?_
      refine TL.gtr rfl rfl rfl ?_
      refine TL.em (fun e21 => ?_) (fun e21 => ?_)
      ·
        refine TL.pickF rfl rfl rfl rfl ?_
        refine TL.move rfl rfl ?_
        refine TL.guardNo (d := 23) rfl rfl rfl rfl rfl ?_
        refine TL.guardNo (d := 23) rfl rfl rfl rfl rfl ?_
        refine TL.guardNo (d := 23) rfl rfl rfl rfl rfl ?_
        refine TL.pickT rfl rfl rfl rfl ?_
        refine TL.done ?_
        refine hK2 _ ?_
        refine Le.here rfl (by first | exact decide_eq_true (by omega) | exact decide_eq_false (by omega) | exact decide_eq_decide.2 (by omega) | exact decide_eq_true (by grind) | exact decide_eq_false (by grind) | exact decide_eq_decide.2 (by grind)) ?_
        repeat (first | exact Le.refl _ | refine Le.skip rfl ?_)
      ·
        refine TL.pickF rfl rfl rfl rfl ?_
        refine TL.move rfl rfl ?_
        refine TL.guardYes (d := 23) rfl rfl rfl ?_
        refine TL.move rfl rfl ?_
        refine TL.guardYes (d := 23) rfl rfl rfl ?_
        refine TL.lenStr Tryd.underlying9 rfl rfl ?_
        refine TL.guardYes (d := 23) rfl rfl rfl ?_
        refine TL.gtr rfl rfl rfl ?_
        refine TL.pickF rfl rfl rfl rfl ?_
        refine TL.done ?_
        refine hK2 _ ?_
        refine Le.here rfl (by first | exact decide_eq_true (by omega) | exact decide_eq_false (by omega) | exact decide_eq_decide.2 (by omega) | exact decide_eq_true (by grind) | exact decide_eq_false (by grind) | exact decide_eq_decide.2 (by grind)) ?_
        repeat (first | exact Le.refl _ | refine Le.skip rfl ?_)
  refine TC.condP rfl (fun h5 => ?_) (fun h5 => ?_)
  ·
    refine TC.seq ?_
    refine TC.region ?_
    refine TL.move rfl rfl ?_
    refine TL.assign rfl rfl ?_
    refine TL.done ?_
    refine Thn.go ?_
    refine TC.ret ?_
    refine Thn.ret ?_
    refine Ends.ret [6] rfl rfl ?_
    exact ⟨rfl, hc12⟩
  ·
    have hl : s.length ≤ 1000 ∧ more.length ≤ 1000 ∧ other.length ≤ 1000 := by omega
    refine TC.skip ?_
    refine Thn.go ?_
    refine TC.seq ?_
    refine TC.region ?_
    refine TL.move rfl rfl ?_
    refine TL.call can15 rfl rfl (fn15 s (by omega) w12) (fun v31 w31 hr31 => ?_)
    obtain ⟨rfl, hc31⟩ := hr31
    refine TL.move rfl rfl ?_
    refine TL.extract rfl rfl rfl ?_
    refine TL.extract rfl rfl rfl ?_
    refine TL.assign rfl rfl ?_
    refine TL.assign rfl rfl ?_
    refine TL.done ?_
    refine Thn.go ?_
    refine TC.seq ?_
    refine TC.seq ?_
    refine TC.region ?_
    refine TL.move rfl rfl ?_
    refine TL.notP rfl rfl ?_
    refine TL.done ?_
    refine Thn.go ?_
    refine TC.condP rfl (fun h6 => ?_) (fun h6 => ?_)
    ·
      have hna : ¬ aftB s := by assumption
      obtain ⟨hn1, hn2⟩ := aft_none hna
      refine TC.seq ?_
      refine TC.seq ?_
      refine TC.region ?_
      refine TL.assign rfl rfl ?_
      refine TL.done ?_
      refine Thn.go ?_
      refine TC.block ?_
      refine TC.loop1 (fun (k : Nat) => [(0, str s), (7, .bool true), (8, str (aftS s)), (10, .int .i64 (k : Int))]) (fun k w' => k ≤ s.length ∧ w' = w31) (fun k => s.length - k) 0 (by repeat (first | exact trivial | refine ⟨rfl, ?_⟩)) (⟨by omega, rfl⟩) (fun k w' hH => ?_)
      obtain ⟨hk, hw'⟩ := hH
      subst hw'
      refine TC.seq ?_
      refine TC.seq ?_
      refine TC.region ?_
      refine TL.move rfl rfl ?_
      refine TL.move rfl rfl ?_
      refine TL.lenStr Tryd.underlying9 rfl rfl ?_
      refine TL.lss rfl rfl rfl ?_
      refine TL.done ?_
      refine Thn.go ?_
      refine TC.condP rfl (fun h7 => ?_) (fun h7 => ?_)
      ·
        have hks : k < s.length := by omega
        have hb255 : s[k] = 255 := hn1 _ (List.getElem_mem hks)
        refine TC.skip ?_
        refine Thn.go ?_
        refine TC.seq ?_
        refine TC.block ?_
        refine TC.seq ?_
        refine TC.region ?_
        refine TL.move rfl rfl ?_
        refine TL.move rfl rfl ?_
        refine TL.indexStr Tryd.underlying9 rfl rfl rfl (by rw [List.getElem?_eq_getElem hks, hb255]) rfl ?_
        refine TL.neq rfl rfl rfl ?_
        refine TL.no (by decide) ?_
        refine TL.done ?_
        refine Thn.go ?_
        refine TC.condF rfl rfl ?_
        refine TC.skip ?_
        refine Blk.go ?_
        refine Thn.go ?_
        refine TC.region ?_
        refine TL.move rfl rfl ?_
        refine TL.add_i64 rfl rfl (by omega) (by omega) rfl ?_
        refine TL.assign rfl rfl ?_
        refine TL.done ?_
        refine Lp.go (k + 1) (by repeat (first | exact trivial | refine ⟨rfl, ?_⟩)) ?_ (by first | omega | (dsimp only; omega))
        exact ⟨by omega, rfl⟩
      ·
        refine TC.exit ?_
        refine Thn.exit ?_
        refine Lp.exit ?_
        refine Blk.hit ?_
        refine Thn.go ?_
        refine TC.seq ?_
        refine TC.region ?_
        refine TL.move rfl rfl ?_
        refine TL.move rfl rfl ?_
        refine TL.guardYes (d := 47) rfl rfl rfl ?_
        refine TL.move rfl rfl ?_
        refine TL.guardYes (d := 47) rfl rfl rfl ?_
        refine TL.eqlStr rfl rfl rfl ?_
        refine TL.yes (hn2) ?_
        refine TL.pickT rfl rfl rfl rfl ?_
        refine TL.assign rfl rfl ?_
        refine TL.done ?_
        refine Thn.go ?_
        refine TC.ret ?_
        refine Thn.ret ?_
        refine Ends.ret [6] rfl rfl ?_
        exact ⟨rfl, hc12.trans0 hc31⟩
    ·
      have hia : aftB s := Decidable.not_not.1 (by assumption)
      have hmo := aft_more hia more
      have hbg := aft_begins hia other
      have hbi : s <+: other ↔ (s.length ≤ other.length ∧ other.take s.length = s) := begins_iff
      refine TC.skip ?_
      refine Thn.go ?_
      refine TC.regionBool (d := 11) (p := (s <+: other)) (fun K9 hK9 => ?_) ?_
      ·
        refine TL.move rfl rfl ?_
        refine TL.lenStr Tryd.underlying9 rfl rfl ?_
        refine TL.move rfl rfl ?_
        refine TL.lenStr Tryd.underlying9 rfl rfl ?_
        refine TL.geq rfl rfl rfl ?_
        refine TL.em (fun e55 => ?_) (fun e55 => ?_)
        ·
          refine TL.move rfl rfl ?_
          refine TL.guardYes (d := 56) rfl rfl rfl ?_
          refine TL.move rfl rfl ?_
          refine TL.guardYes (d := 56) rfl rfl rfl ?_
          refine TL.move rfl rfl ?_
          refine TL.guardYes (d := 56) rfl rfl rfl ?_
          refine TL.lenStr Tryd.underlying9 rfl rfl ?_
          refine TL.guardYes (d := 56) rfl rfl rfl ?_
          refine TL.strTo (j := s.length) Tryd.underlying9 rfl rfl rfl (by omega) rfl ?_
          refine TL.guardYes (d := 56) rfl rfl rfl ?_
          refine TL.move rfl rfl ?_
          refine TL.guardYes (d := 56) rfl rfl rfl ?_
          refine TL.eqlStr rfl rfl rfl ?_
          refine TL.pickT rfl rfl rfl rfl ?_
          refine TL.assign rfl rfl ?_
          refine TL.done ?_
          refine hK9 _ ?_
          refine Le.here rfl (by grind) ?_
          repeat (first | exact Le.refl _ | refine Le.skip rfl ?_)
        ·
          refine TL.move rfl rfl ?_
          refine TL.guardNo (d := 56) rfl rfl rfl rfl rfl ?_
          refine TL.guardNo (d := 56) rfl rfl rfl rfl rfl ?_
          refine TL.guardNo (d := 56) rfl rfl rfl rfl rfl ?_
          refine TL.guardNo (d := 56) rfl rfl rfl rfl rfl ?_
          refine TL.guardNo (d := 56) rfl rfl rfl rfl rfl ?_
          refine TL.guardNo (d := 56) rfl rfl rfl rfl rfl ?_
          refine TL.pickF rfl rfl rfl rfl ?_
          refine TL.assign rfl rfl ?_
          refine TL.done ?_
          refine hK9 _ ?_
          refine Le.here rfl (by grind) ?_
          repeat (first | exact Le.refl _ | refine Le.skip rfl ?_)
      refine TC.cut0 ([(6, .bool (decide True))]) (fun w' => w' = w31) (fun K11 hK11 => ?_) (fun w' hH => ?_)
      ·
        refine TC.region ?_
        refine TL.move rfl rfl ?_
        refine TL.move rfl rfl ?_
        refine TL.guardYes (d := 65) rfl rfl rfl ?_
        refine TL.move rfl rfl ?_
        refine TL.guardYes (d := 65) rfl rfl rfl ?_
        refine TL.move rfl rfl ?_
        refine TL.guardYes (d := 65) rfl rfl rfl ?_
        refine TL.addStr rfl rfl (by omega) rfl ?_
        refine TL.guardYes (d := 65) rfl rfl rfl ?_
        refine TL.move rfl rfl ?_
        refine TL.guardYes (d := 65) rfl rfl rfl ?_
        refine TL.lssStr rfl rfl rfl ?_
        refine TL.top (v' := .bool (decide (Op.bytesLess (s ++ more) (aftS s) = true))) (by simp) ?_
        refine TL.yes (hmo) ?_
        refine TL.pickT rfl rfl rfl rfl ?_
        refine TL.move rfl rfl ?_
        refine TL.guardYes (d := 72) rfl rfl rfl ?_
        refine TL.move rfl rfl ?_
        refine TL.guardYes (d := 72) rfl rfl rfl ?_
        refine TL.move rfl rfl ?_
        refine TL.guardYes (d := 72) rfl rfl rfl ?_
        refine TL.move rfl rfl ?_
        refine TL.guardYes (d := 72) rfl rfl rfl ?_
        refine TL.geqStr rfl rfl rfl ?_
        refine TL.top (v' := .bool (decide (Op.bytesLess other s = false))) (by cases Op.bytesLess other s <;> rfl) ?_
        refine TL.em (fun e76 => ?_) (fun e76 => ?_)
        ·
          refine TL.guardYes (d := 72) rfl rfl rfl ?_
          refine TL.move rfl rfl ?_
          refine TL.guardYes (d := 77) rfl rfl rfl ?_
          refine TL.move rfl rfl ?_
          refine TL.guardYes (d := 77) rfl rfl rfl ?_
          refine TL.move rfl rfl ?_
          refine TL.guardYes (d := 77) rfl rfl rfl ?_
          refine TL.lssStr rfl rfl rfl ?_
          refine TL.guardYes (d := 72) rfl rfl rfl ?_
          refine TL.pickT rfl rfl rfl rfl ?_
          refine TL.guardYes (d := 72) rfl rfl rfl ?_
          refine TL.eqlBool Tryd.underlying4 rfl rfl rfl ?_
          refine TL.pickT rfl rfl rfl rfl ?_
          refine TL.assign rfl rfl ?_
          refine TL.done ?_
          exact hK11  _ _ (by repeat (first | exact trivial | refine ⟨rfl, ?_⟩ | refine ⟨congrArg (fun b => some (Value.bool b)) (by first | exact (decide_eq_true (by grind)).symm | exact (decide_eq_false (by grind)).symm | exact decide_eq_decide.2 (by grind) | exact decide_eq_true (by grind) | exact decide_eq_false (by grind) | (exfalso; grind)), ?_⟩)) (rfl)
        ·
          refine TL.guardYes (d := 72) rfl rfl rfl ?_
          refine TL.move rfl rfl ?_
          refine TL.guardNo (d := 77) rfl rfl rfl rfl rfl ?_
          refine TL.guardNo (d := 77) rfl rfl rfl rfl rfl ?_
          refine TL.guardNo (d := 77) rfl rfl rfl rfl rfl ?_
          refine TL.guardYes (d := 72) rfl rfl rfl ?_
          refine TL.pickF rfl rfl rfl rfl ?_
          refine TL.guardYes (d := 72) rfl rfl rfl ?_
          refine TL.eqlBool Tryd.underlying4 rfl rfl rfl ?_
          refine TL.pickT rfl rfl rfl rfl ?_
          refine TL.assign rfl rfl ?_
          refine TL.done ?_
          exact hK11  _ _ (by repeat (first | exact trivial | refine ⟨rfl, ?_⟩ | refine ⟨congrArg (fun b => some (Value.bool b)) (by first | exact (decide_eq_true (by grind)).symm | exact (decide_eq_false (by grind)).symm | exact decide_eq_decide.2 (by grind) | exact decide_eq_true (by grind) | exact decide_eq_false (by grind) | (exfalso; grind)), ?_⟩)) (rfl)
      ·
        refine TC.ret ?_
        refine Ends.ret [6] rfl rfl ?_
        subst hH
        exact ⟨rfl, hc12.trans0 hc31⟩

