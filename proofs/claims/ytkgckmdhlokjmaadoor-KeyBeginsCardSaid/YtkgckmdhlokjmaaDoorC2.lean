/-
  Walks through the given program: each theorem fnN says what the call of function N of the translation hands back, for all arguments that its premises describe, and that nothing that was there has turned.
-/
import Derived.Test.YtkgckmdhlokjmaaDoorB8
namespace Go.Proofs.YtkgckmdhlokjmaaDoor
open Go.Lane
open Go.Key
open Go.RowKit (Below)

theorem flat_cl : ∀ l : List Part, (l.flatMap cl).length = l.length * 3
  | [] => rfl
  | p :: l => by rw [List.flatMap_cons, List.length_append, flat_cl l, cl_len, List.length_cons]; omega

theorem fn7 (av bv : Value) (l m : List Part) (n : Int) (w : World) (h : Sh w) (hi : ∀ p ∈ l, inI p.int) (hj : ∀ p ∈ m, inI p.int) (ha : Rd w av 3 l.length (l.flatMap cl)) (hb : Rd w bv 3 m.length (m.flatMap cl)) : Rets Tryd.prog 7 #[av, .int .i64 n, bv] w (fun v w' => v = .bool true ∧ Ch [] w w') := by
  obtain ⟨ad, ac, rfl, _⟩ := ha.shape
  obtain ⟨bd, bc, rfl, _⟩ := hb.shape
  have hmm : maxLen = 9223372036854775807 := rfl
  refine Rets.of (n := 130) (vs := [_, _, _]) Tryd.func7 rfl rfl rfl ?_
  refine TC.seq ?_
  refine TC.region ?_
  refine TL.assign rfl rfl ?_
  refine TL.done ?_
  refine Thn.go ?_
  refine TC.seq ?_
  refine TC.region ?_
  refine TL.call can9 rfl rfl (fn9 w h) (fun v17 w17 hr17 => ?_)
  obtain ⟨rfl, hc17⟩ := hr17
  refine TL.assign rfl rfl ?_
  refine TL.done ?_
  refine Thn.go ?_
  refine TC.seq ?_
  refine TC.seq ?_
  refine TC.region ?_
  refine TL.move rfl rfl ?_
  refine TL.not rfl rfl ?_
  refine TL.done ?_
  refine Thn.go ?_
  refine TC.condF rfl rfl ?_
  refine TC.skip ?_
  refine Thn.go ?_
  refine TC.seq ?_
  refine TC.regionBool (d := 37) (p := (100 < l.length ∨ 100 < m.length ∨ n < 0 ∨ (l.length : Int) < n)) (fun K2 hK2 => ?_) ?_
  ·
    refine TL.move rfl rfl ?_
    refine TL.lenSlice Tryd.underlying22 rfl rfl ?_
    refine TL.gtr rfl rfl rfl ?_
    refine TL.em (fun e22 => ?_) (fun e22 => ?_)
    ·
      refine TL.move rfl rfl ?_
      refine TL.guardNo (d := 23) rfl rfl rfl rfl rfl ?_
      refine TL.guardNo (d := 23) rfl rfl rfl rfl rfl ?_
      refine TL.guardNo (d := 23) rfl rfl rfl rfl rfl ?_
      refine TL.pickT rfl rfl rfl rfl ?_
      refine TL.move rfl rfl ?_
      refine TL.guardNo (d := 28) rfl rfl rfl rfl rfl ?_
      refine TL.guardNo (d := 28) rfl rfl rfl rfl rfl ?_
      refine TL.pickT rfl rfl rfl rfl ?_
      refine TL.move rfl rfl ?_
      refine TL.guardNo (d := 32) rfl rfl rfl rfl rfl ?_
      refine TL.guardNo (d := 32) rfl rfl rfl rfl rfl ?_
      refine TL.guardNo (d := 32) rfl rfl rfl rfl rfl ?_
      refine TL.guardNo (d := 32) rfl rfl rfl rfl rfl ?_
      refine TL.pickT rfl rfl rfl rfl ?_
      refine TL.done ?_
      refine hK2 _ ?_
      refine Le.here rfl (by first | exact decide_eq_true (by omega) | exact decide_eq_false (by omega) | exact decide_eq_decide.2 (by omega) | exact decide_eq_true (by grind) | exact decide_eq_false (by grind) | exact decide_eq_decide.2 (by grind)) ?_
      repeat (first | exact Le.refl _ | refine Le.skip rfl ?_)
    ·
      refine TL.move rfl rfl ?_
      refine TL.guardYes (d := 23) rfl rfl rfl ?_
      refine TL.move rfl rfl ?_
      refine TL.guardYes (d := 23) rfl rfl rfl ?_
      refine TL.lenSlice Tryd.underlying22 rfl rfl ?_
      refine TL.guardYes (d := 23) rfl rfl rfl ?_
      refine TL.gtr rfl rfl rfl ?_
      refine TL.em (fun e26 => ?_) (fun e26 => ?_)
      ·
        refine TL.pickF rfl rfl rfl rfl ?_
        refine TL.move rfl rfl ?_
        refine TL.guardNo (d := 28) rfl rfl rfl rfl rfl ?_
        refine TL.guardNo (d := 28) rfl rfl rfl rfl rfl ?_
        refine TL.pickT rfl rfl rfl rfl ?_
        refine TL.move rfl rfl ?_
        refine TL.guardNo (d := 32) rfl rfl rfl rfl rfl ?_
        refine TL.guardNo (d := 32) rfl rfl rfl rfl rfl ?_
        refine TL.guardNo (d := 32) rfl rfl rfl rfl rfl ?_
        refine TL.guardNo (d := 32) rfl rfl rfl rfl rfl ?_
        refine TL.pickT rfl rfl rfl rfl ?_
        refine TL.done ?_
        refine hK2 _ ?_
        refine Le.here rfl (by first | exact decide_eq_true (by omega) | exact decide_eq_false (by omega) | exact decide_eq_decide.2 (by omega) | exact decide_eq_true (by grind) | exact decide_eq_false (by grind) | exact decide_eq_decide.2 (by grind)) ?_
        repeat (first | exact Le.refl _ | refine Le.skip rfl ?_)
      ·
        refine TL.pickF rfl rfl rfl rfl ?_
        refine TL.move rfl rfl ?_
        refine TL.guardYes (d := 28) rfl rfl rfl ?_
        refine TL.move rfl rfl ?_
        refine TL.guardYes (d := 28) rfl rfl rfl ?_
        refine TL.lss rfl rfl rfl ?_
        refine TL.em (fun e30 => ?_) (fun e30 => ?_)
        ·
          refine TL.pickF rfl rfl rfl rfl ?_
          refine TL.move rfl rfl ?_
          refine TL.guardNo (d := 32) rfl rfl rfl rfl rfl ?_
          refine TL.guardNo (d := 32) rfl rfl rfl rfl rfl ?_
          refine TL.guardNo (d := 32) rfl rfl rfl rfl rfl ?_
          refine TL.guardNo (d := 32) rfl rfl rfl rfl rfl ?_
          refine TL.pickT rfl rfl rfl rfl ?_
          refine TL.done ?_
          refine hK2 _ ?_
          refine Le.here rfl (by first | exact decide_eq_true (by omega) | exact decide_eq_false (by omega) | exact decide_eq_decide.2 (by omega) | exact decide_eq_true (by grind) | exact decide_eq_false (by grind) | exact decide_eq_decide.2 (by grind)) ?_
          repeat (first | exact Le.refl _ | refine Le.skip rfl ?_)
        ·
          refine TL.pickF rfl rfl rfl rfl ?_
          refine TL.move rfl rfl ?_
          refine TL.guardYes (d := 32) rfl rfl rfl ?_
          refine TL.move rfl rfl ?_
          refine TL.guardYes (d := 32) rfl rfl rfl ?_
          refine TL.move rfl rfl ?_
          refine TL.guardYes (d := 32) rfl rfl rfl ?_
          refine TL.lenSlice Tryd.underlying22 rfl rfl ?_
          refine TL.guardYes (d := 32) rfl rfl rfl ?_
          refine TL.gtr rfl rfl rfl ?_
          refine TL.pickF rfl rfl rfl rfl ?_
          refine TL.done ?_
          refine hK2 _ ?_
          refine Le.here rfl (by first | exact decide_eq_true (by omega) | exact decide_eq_false (by omega) | exact decide_eq_decide.2 (by omega) | exact decide_eq_true (by grind) | exact decide_eq_false (by grind) | exact decide_eq_decide.2 (by grind)) ?_
          repeat (first | exact Le.refl _ | refine Le.skip rfl ?_)
  refine TC.condP rfl (fun h6 => ?_) (fun h6 => ?_)
  ·
    refine TC.seq ?_
    refine TC.region ?_
    refine TL.move rfl rfl ?_
    refine TL.assign rfl rfl ?_
    refine TL.done ?_
    refine Thn.go ?_
    refine TC.ret ?_
    refine Thn.ret ?_
    refine Ends.ret [6] rfl rfl ?_
    exact ⟨rfl, hc17⟩
  ·
    obtain ⟨k, rfl⟩ : ∃ k : Nat, n = k := ⟨n.toNat, by omega⟩
    have hkl : k ≤ l.length := by omega
    have hcap := ha.cap
    have hkt : (l.take k).length = k := by rw [List.length_take]; omega
    have hat : Rd w (.slice ad k ac) 3 (l.take k).length ((l.take k).flatMap cl) := by
      have h1 := ha.to hkl
      have e : (l.flatMap cl).take (k * 3) = (l.take k).flatMap cl := by
        have e2 : l.flatMap cl = (l.take k).flatMap cl ++ (l.drop k).flatMap cl := by rw [← List.flatMap_append, List.take_append_drop]
        have e3 : ((l.take k).flatMap cl).length = k * 3 := by rw [flat_cl, hkt]
        rw [e2, List.take_append_of_le_length (by omega), List.take_of_length_le (by omega)]
      rw [e] at h1
      rw [hkt]; exact h1
    refine TC.skip ?_
    refine Thn.go ?_
    refine TC.seq ?_
    refine TC.region ?_
    refine TL.move rfl rfl ?_
    refine TL.call can10 rfl rfl (fn10 _ l w17 (h.ch0 hc17) hi (ha.ch0 hc17)) (fun v41 w41 hr41 => ?_)
    obtain ⟨rfl, hc41⟩ := hr41
    have q41 := hc17.trans0 hc41
    refine TL.move rfl rfl ?_
    refine TL.extract rfl rfl rfl ?_
    refine TL.extract rfl rfl rfl ?_
    refine TL.assign rfl rfl ?_
    refine TL.assign rfl rfl ?_
    refine TL.done ?_
    refine Thn.go ?_
    refine TC.seq ?_
    refine TC.region ?_
    refine TL.move rfl rfl ?_
    refine TL.move rfl rfl ?_
    refine TL.sliceTo (k) sl22 rfl rfl (by first | rfl | omega) (by omega) rfl ?_
    refine TL.call can10 rfl rfl (fn10 _ (l.take k) w41 (h.ch0 q41) (fun p hp => hi p (List.mem_of_mem_take hp)) (hat.ch0 q41)) (fun v48 w48 hr48 => ?_)
    obtain ⟨rfl, hc48⟩ := hr48
    have q48 := q41.trans0 hc48
    refine TL.move rfl rfl ?_
    refine TL.extract rfl rfl rfl ?_
    refine TL.extract rfl rfl rfl ?_
    refine TL.assign rfl rfl ?_
    refine TL.assign rfl rfl ?_
    refine TL.done ?_
    refine Thn.go ?_
    refine TC.seq ?_
    refine TC.region ?_
    refine TL.move rfl rfl ?_
    refine TL.call can10 rfl rfl (fn10 _ m w48 (h.ch0 q48) hj (hb.ch0 q48)) (fun v53 w53 hr53 => ?_)
    obtain ⟨rfl, hc53⟩ := hr53
    have q53 := q48.trans0 hc53
    refine TL.move rfl rfl ?_
    refine TL.extract rfl rfl rfl ?_
    refine TL.extract rfl rfl rfl ?_
    refine TL.assign rfl rfl ?_
    refine TL.assign rfl rfl ?_
    refine TL.done ?_
    refine Thn.go ?_
    refine TC.seq ?_
    refine TC.regionBool (d := 65) (p := (makeE l ≠ 0 ∨ makeE (l.take k) ≠ 0 ∨ makeE m ≠ 0)) (fun K7 hK7 => ?_) ?_
    ·
      refine TL.move rfl rfl ?_
      refine TL.neq rfl rfl rfl ?_
      refine TL.em (fun e57 => ?_) (fun e57 => ?_)
      ·
        refine TL.move rfl rfl ?_
        refine TL.guardNo (d := 58) rfl rfl rfl rfl rfl ?_
        refine TL.guardNo (d := 58) rfl rfl rfl rfl rfl ?_
        refine TL.pickT rfl rfl rfl rfl ?_
        refine TL.move rfl rfl ?_
        refine TL.guardNo (d := 62) rfl rfl rfl rfl rfl ?_
        refine TL.guardNo (d := 62) rfl rfl rfl rfl rfl ?_
        refine TL.pickT rfl rfl rfl rfl ?_
        refine TL.done ?_
        refine hK7 _ ?_
        refine Le.here rfl (by first | exact decide_eq_true (by omega) | exact decide_eq_false (by omega) | exact decide_eq_decide.2 (by omega) | exact decide_eq_true (by grind) | exact decide_eq_false (by grind) | exact decide_eq_decide.2 (by grind)) ?_
        repeat (first | exact Le.refl _ | refine Le.skip rfl ?_)
      ·
        refine TL.move rfl rfl ?_
        refine TL.guardYes (d := 58) rfl rfl rfl ?_
        refine TL.move rfl rfl ?_
        refine TL.guardYes (d := 58) rfl rfl rfl ?_
        refine TL.neq rfl rfl rfl ?_
        refine TL.em (fun e60 => ?_) (fun e60 => ?_)
        ·
          refine TL.pickF rfl rfl rfl rfl ?_
          refine TL.move rfl rfl ?_
          refine TL.guardNo (d := 62) rfl rfl rfl rfl rfl ?_
          refine TL.guardNo (d := 62) rfl rfl rfl rfl rfl ?_
          refine TL.pickT rfl rfl rfl rfl ?_
          refine TL.done ?_
          refine hK7 _ ?_
          refine Le.here rfl (by first | exact decide_eq_true (by omega) | exact decide_eq_false (by omega) | exact decide_eq_decide.2 (by omega) | exact decide_eq_true (by grind) | exact decide_eq_false (by grind) | exact decide_eq_decide.2 (by grind)) ?_
          repeat (first | exact Le.refl _ | refine Le.skip rfl ?_)
        ·
          refine TL.pickF rfl rfl rfl rfl ?_
          refine TL.move rfl rfl ?_
          refine TL.guardYes (d := 62) rfl rfl rfl ?_
          refine TL.move rfl rfl ?_
          refine TL.guardYes (d := 62) rfl rfl rfl ?_
          refine TL.neq rfl rfl rfl ?_
          refine TL.pickF rfl rfl rfl rfl ?_
          refine TL.done ?_
          refine hK7 _ ?_
          refine Le.here rfl (by first | exact decide_eq_true (by omega) | exact decide_eq_false (by omega) | exact decide_eq_decide.2 (by omega) | exact decide_eq_true (by grind) | exact decide_eq_false (by grind) | exact decide_eq_decide.2 (by grind)) ?_
          repeat (first | exact Le.refl _ | refine Le.skip rfl ?_)
    refine TC.condP rfl (fun h10 => ?_) (fun h10 => ?_)
    ·
      refine TC.seq ?_
      refine TC.region ?_
      refine TL.move rfl rfl ?_
      refine TL.assign rfl rfl ?_
      refine TL.done ?_
      refine Thn.go ?_
      refine TC.ret ?_
      refine Thn.ret ?_
      refine Ends.ret [6] rfl rfl ?_
      exact ⟨rfl, q53⟩
    ·
      have hel : makeE l = 0 := by omega
      have heh : makeE (l.take k) = 0 := by omega
      have hem : makeE m = 0 := by omega
      obtain ⟨gl, sl, _, l256⟩ := good_of hi hel
      obtain ⟨gh, sh, _, h256⟩ := good_of (fun p hp => hi p (List.mem_of_mem_take hp)) heh
      obtain ⟨gm, sm, _, m256⟩ := good_of hj hem
      rw [← sl] at l256
      rw [← sh] at h256
      rw [← sm] at m256
      have hpre : makeS (l.take k) <+: makeS l := by rw [sl, sh]; exact key_take l k
      obtain ⟨hple, hpt⟩ := begins_iff.1 hpre
      have hia : aftB (makeS (l.take k)) ↔ 0 < k := by
        rw [sh, aft_key gh]
        constructor
        · intro h1
          exact Nat.pos_of_ne_zero (fun e => h1 (by rw [e, List.take_zero]))
        · intro h1 h2
          rw [h2] at hkt
          simp at hkt; omega
      obtain ⟨A, hA⟩ : ∃ A, makeS l = A := ⟨_, rfl⟩
      obtain ⟨H, hH⟩ : ∃ H, makeS (l.take k) = H := ⟨_, rfl⟩
      obtain ⟨Y, hY⟩ : ∃ Y, makeS m = Y := ⟨_, rfl⟩
      rw [hA] at hpre hpt hple l256 ⊢
      rw [hH] at hpre hpt hple hia h256 ⊢
      rw [hY] at m256 ⊢
      refine TC.skip ?_
      refine Thn.go ?_
      refine TC.seq ?_
      refine TC.region ?_
      refine TL.move rfl rfl ?_
      refine TL.call can15 rfl rfl (fn15 H (by omega) w53) (fun v69 w69 hr69 => ?_)
      obtain ⟨rfl, hc69⟩ := hr69
      have q69 := q53.trans0 hc69
      refine TL.move rfl rfl ?_
      refine TL.extract rfl rfl rfl ?_
      refine TL.extract rfl rfl rfl ?_
      refine TL.assign rfl rfl ?_
      refine TL.assign rfl rfl ?_
      refine TL.done ?_
      refine Thn.go ?_
      refine TC.seq ?_
      refine TC.seq ?_
      refine TC.region ?_
      refine TL.move rfl rfl ?_
      refine TL.lenStr Tryd.underlying9 rfl rfl ?_
      refine TL.move rfl rfl ?_
      refine TL.lenStr Tryd.underlying9 rfl rfl ?_
      refine TL.lss rfl rfl rfl ?_
      refine TL.no (by omega) ?_
      refine TL.move rfl rfl ?_
      refine TL.guardYes (d := 77) rfl rfl rfl ?_
      refine TL.move rfl rfl ?_
      refine TL.guardYes (d := 77) rfl rfl rfl ?_
      refine TL.move rfl rfl ?_
      refine TL.guardYes (d := 77) rfl rfl rfl ?_
      refine TL.lenStr Tryd.underlying9 rfl rfl ?_
      refine TL.guardYes (d := 77) rfl rfl rfl ?_
      refine TL.strTo (j := H.length) Tryd.underlying9 rfl rfl rfl (by omega) rfl ?_
      refine TL.guardYes (d := 77) rfl rfl rfl ?_
      refine TL.move rfl rfl ?_
      refine TL.guardYes (d := 77) rfl rfl rfl ?_
      refine TL.neqStr rfl rfl rfl ?_
      refine TL.no (fun x => x hpt) ?_
      refine TL.pickF rfl rfl rfl rfl ?_
      refine TL.move rfl rfl ?_
      refine TL.guardYes (d := 85) rfl rfl rfl ?_
      refine TL.move rfl rfl ?_
      refine TL.guardYes (d := 85) rfl rfl rfl ?_
      refine TL.move rfl rfl ?_
      refine TL.guardYes (d := 85) rfl rfl rfl ?_
      refine TL.gtr rfl rfl rfl ?_
      refine TL.guardYes (d := 85) rfl rfl rfl ?_
      refine TL.neqBool Tryd.underlying4 rfl rfl rfl ?_
      refine TL.no (fun x => x (decide_eq_decide.2 (by rw [hia]; omega))) ?_
      refine TL.pickF rfl rfl rfl rfl ?_
      refine TL.done ?_
      refine Thn.go ?_
      refine TC.condF rfl rfl ?_
      refine TC.skip ?_
      refine Thn.go ?_
      refine TC.seq ?_
      refine TC.seq ?_
      refine TC.region ?_
      refine TL.move rfl rfl ?_
      refine TL.notP rfl rfl ?_
      refine TL.done ?_
      refine Thn.go ?_
      refine TC.condP rfl (fun h12 => ?_) (fun h12 => ?_)
      ·
        have hx := hia
        refine TC.seq ?_
        refine TC.region ?_
        refine TL.move rfl rfl ?_
        refine TL.assign rfl rfl ?_
        refine TL.done ?_
        refine Thn.go ?_
        refine TC.ret ?_
        refine Thn.ret ?_
        refine Ends.ret [6] rfl rfl ?_
        exact ⟨rfl, q69⟩
      ·
        have hb0 : aftB H := Decidable.not_not.1 (by assumption)
        have hmo : Op.bytesLess A (aftS H) = true := ((aft_begins hb0 A).1 hpre).2
        have hge : Op.bytesLess A H = false := ((aft_begins hb0 A).1 hpre).1
        have hbg := aft_begins hb0 Y
        have hbi : H <+: Y ↔ (H.length ≤ Y.length ∧ Y.take H.length = H) := begins_iff
        refine TC.skip ?_
        refine Thn.go ?_
        refine TC.regionBool (d := 16) (p := (H <+: Y)) (fun K13 hK13 => ?_) ?_
        ·
          refine TL.move rfl rfl ?_
          refine TL.lenStr Tryd.underlying9 rfl rfl ?_
          refine TL.move rfl rfl ?_
          refine TL.lenStr Tryd.underlying9 rfl rfl ?_
          refine TL.geq rfl rfl rfl ?_
          refine TL.em (fun e98 => ?_) (fun e98 => ?_)
          ·
            refine TL.move rfl rfl ?_
            refine TL.guardYes (d := 99) rfl rfl rfl ?_
            refine TL.move rfl rfl ?_
            refine TL.guardYes (d := 99) rfl rfl rfl ?_
            refine TL.move rfl rfl ?_
            refine TL.guardYes (d := 99) rfl rfl rfl ?_
            refine TL.lenStr Tryd.underlying9 rfl rfl ?_
            refine TL.guardYes (d := 99) rfl rfl rfl ?_
            refine TL.strTo (j := H.length) Tryd.underlying9 rfl rfl rfl (by omega) rfl ?_
            refine TL.guardYes (d := 99) rfl rfl rfl ?_
            refine TL.move rfl rfl ?_
            refine TL.guardYes (d := 99) rfl rfl rfl ?_
            refine TL.eqlStr rfl rfl rfl ?_
            refine TL.pickT rfl rfl rfl rfl ?_
            refine TL.assign rfl rfl ?_
            refine TL.done ?_
            refine hK13 _ ?_
            refine Le.here rfl (by grind) ?_
            repeat (first | exact Le.refl _ | refine Le.skip rfl ?_)
          ·
            refine TL.move rfl rfl ?_
            refine TL.guardNo (d := 99) rfl rfl rfl rfl rfl ?_
            refine TL.guardNo (d := 99) rfl rfl rfl rfl rfl ?_
            refine TL.guardNo (d := 99) rfl rfl rfl rfl rfl ?_
            refine TL.guardNo (d := 99) rfl rfl rfl rfl rfl ?_
            refine TL.guardNo (d := 99) rfl rfl rfl rfl rfl ?_
            refine TL.guardNo (d := 99) rfl rfl rfl rfl rfl ?_
            refine TL.pickF rfl rfl rfl rfl ?_
            refine TL.assign rfl rfl ?_
            refine TL.done ?_
            refine hK13 _ ?_
            refine Le.here rfl (by grind) ?_
            repeat (first | exact Le.refl _ | refine Le.skip rfl ?_)
        refine TC.cut0 ([(6, .bool (decide True))]) (fun w' => w' = w69) (fun K15 hK15 => ?_) (fun w' hw => ?_)
        ·
          refine TC.region ?_
          refine TL.move rfl rfl ?_
          refine TL.move rfl rfl ?_
          refine TL.guardYes (d := 108) rfl rfl rfl ?_
          refine TL.move rfl rfl ?_
          refine TL.guardYes (d := 108) rfl rfl rfl ?_
          refine TL.move rfl rfl ?_
          refine TL.guardYes (d := 108) rfl rfl rfl ?_
          refine TL.geqStr rfl rfl rfl ?_
          refine TL.top (v' := .bool (decide (Op.bytesLess A H = false))) (by cases Op.bytesLess A H <;> rfl) ?_
          refine TL.yes (hge) ?_
          refine TL.pickT rfl rfl rfl rfl ?_
          refine TL.move rfl rfl ?_
          refine TL.guardYes (d := 113) rfl rfl rfl ?_
          refine TL.move rfl rfl ?_
          refine TL.guardYes (d := 113) rfl rfl rfl ?_
          refine TL.move rfl rfl ?_
          refine TL.guardYes (d := 113) rfl rfl rfl ?_
          refine TL.lssStr rfl rfl rfl ?_
          refine TL.top (v' := .bool (decide (Op.bytesLess A (aftS H) = true))) (by simp) ?_
          refine TL.yes (hmo) ?_
          refine TL.pickT rfl rfl rfl rfl ?_
          refine TL.move rfl rfl ?_
          refine TL.guardYes (d := 118) rfl rfl rfl ?_
          refine TL.move rfl rfl ?_
          refine TL.guardYes (d := 118) rfl rfl rfl ?_
          refine TL.move rfl rfl ?_
          refine TL.guardYes (d := 118) rfl rfl rfl ?_
          refine TL.move rfl rfl ?_
          refine TL.guardYes (d := 118) rfl rfl rfl ?_
          refine TL.geqStr rfl rfl rfl ?_
          refine TL.top (v' := .bool (decide (Op.bytesLess Y H = false))) (by cases Op.bytesLess Y H <;> rfl) ?_
          refine TL.em (fun e122 => ?_) (fun e122 => ?_)
          ·
            refine TL.guardYes (d := 118) rfl rfl rfl ?_
            refine TL.move rfl rfl ?_
            refine TL.guardYes (d := 123) rfl rfl rfl ?_
            refine TL.move rfl rfl ?_
            refine TL.guardYes (d := 123) rfl rfl rfl ?_
            refine TL.move rfl rfl ?_
            refine TL.guardYes (d := 123) rfl rfl rfl ?_
            refine TL.lssStr rfl rfl rfl ?_
            refine TL.guardYes (d := 118) rfl rfl rfl ?_
            refine TL.pickT rfl rfl rfl rfl ?_
            refine TL.guardYes (d := 118) rfl rfl rfl ?_
            refine TL.eqlBool Tryd.underlying4 rfl rfl rfl ?_
            refine TL.pickT rfl rfl rfl rfl ?_
            refine TL.assign rfl rfl ?_
            refine TL.done ?_
            exact hK15  _ _ (by repeat (first | exact trivial | refine ⟨rfl, ?_⟩ | refine ⟨congrArg (fun b => some (Value.bool b)) (by first | exact (decide_eq_true (by grind)).symm | exact (decide_eq_false (by grind)).symm | exact decide_eq_decide.2 (by grind) | exact decide_eq_true (by grind) | exact decide_eq_false (by grind) | (exfalso; grind)), ?_⟩)) (rfl)
          ·
            refine TL.guardYes (d := 118) rfl rfl rfl ?_
            refine TL.move rfl rfl ?_
            refine TL.guardNo (d := 123) rfl rfl rfl rfl rfl ?_
            refine TL.guardNo (d := 123) rfl rfl rfl rfl rfl ?_
            refine TL.guardNo (d := 123) rfl rfl rfl rfl rfl ?_
            refine TL.guardYes (d := 118) rfl rfl rfl ?_
            refine TL.pickF rfl rfl rfl rfl ?_
            refine TL.guardYes (d := 118) rfl rfl rfl ?_
            refine TL.eqlBool Tryd.underlying4 rfl rfl rfl ?_
            refine TL.pickT rfl rfl rfl rfl ?_
            refine TL.assign rfl rfl ?_
            refine TL.done ?_
            exact hK15  _ _ (by repeat (first | exact trivial | refine ⟨rfl, ?_⟩ | refine ⟨congrArg (fun b => some (Value.bool b)) (by first | exact (decide_eq_true (by grind)).symm | exact (decide_eq_false (by grind)).symm | exact decide_eq_decide.2 (by grind) | exact decide_eq_true (by grind) | exact decide_eq_false (by grind) | (exfalso; grind)), ?_⟩)) (rfl)
        ·
          refine TC.ret ?_
          refine Ends.ret [6] rfl rfl ?_
          subst hw
          exact ⟨rfl, q69⟩

