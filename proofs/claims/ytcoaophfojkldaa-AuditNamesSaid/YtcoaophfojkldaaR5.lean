/-
  Walks through the given program: each theorem fnN says what the call of function N of the translation hands back, for all arguments that its premises describe, and that nothing that was there has turned.
-/
import Derived.Test.YtcoaophfojkldaaR4
import Derived.Test.YtcoaophfojkldaaGrow
namespace Go.Proofs.Ytcoaophfojkldaa
open Go.Lane
theorem can10 : Callable Try.prog 10 := ⟨Try.f10, Try.func10, by kernel_rfl, rfl⟩
theorem can11 : Callable Try.prog 11 := ⟨Try.f11, Try.func11, by kernel_rfl, rfl⟩
theorem can12 : Callable Try.prog 12 := ⟨Try.f12, Try.func12, by kernel_rfl, rfl⟩
theorem can15 : Callable Try.prog 15 := ⟨Try.f15, Try.func15, by kernel_rfl, rfl⟩
theorem can8 : Callable Try.prog 8 := ⟨Try.f8, Try.func8, by kernel_rfl, rfl⟩
theorem can9 : Callable Try.prog 9 := ⟨Try.f9, Try.func9, by kernel_rfl, rfl⟩
def r77 : Audit.Record := ⟨0, 0, [55, 55], [], 0, []⟩

theorem fn8 (a : Value) (l : List Audit.Record) (w : World) (ha : Rd w a 6 l.length (l.flatMap cl)) : Rets Try.prog 8 #[a] w (fun v w' => v = .bool (decide (Audit.longP l)) ∧ w' = w) := by
  obtain ⟨ad, c, rfl, _⟩ := ha.shape
  have hmx : l.length ≤ 9223372036854775807 := ha.nlt
  refine Rets.of (n := 46) (vs := [_]) Try.func8 rfl rfl rfl ?_
  refine TC.seq ?_
  refine TC.region ?_
  refine TL.assign rfl rfl ?_
  refine TL.done ?_
  refine Thn.go ?_
  refine TC.seq ?_
  refine TC.seq ?_
  refine TC.region ?_
  refine TL.move rfl rfl ?_
  refine TL.lenSlice Try.underlying22 rfl rfl ?_
  refine TL.gtr rfl rfl rfl ?_
  refine TL.done ?_
  refine Thn.go ?_
  refine TC.condP rfl (fun h1 => ?_) (fun h1 => ?_)
  ·
    have hlp : Audit.longP l ↔ ((l.length : Int) ≤ 4096 ∨ (l.length : Int) > 4200) := by unfold Audit.longP; rw [if_pos (by omega)]; omega
    refine TC.cut0 ([(2, .bool (decide (Audit.longP l)))]) (fun w2 => w2 = w) (fun K2 hK2 => ?_) (fun w2 hH => ?_)
    ·
      refine TC.region ?_
      refine TL.move rfl rfl ?_
      refine TL.lenSlice Try.underlying22 rfl rfl ?_
      refine TL.leq rfl rfl rfl ?_
      refine TL.em (fun e9 => ?_) (fun e9 => ?_)
      ·
        refine TL.move rfl rfl ?_
        refine TL.guardNo (d := 10) rfl rfl rfl rfl rfl ?_
        refine TL.guardNo (d := 10) rfl rfl rfl rfl rfl ?_
        refine TL.guardNo (d := 10) rfl rfl rfl rfl rfl ?_
        refine TL.pickT rfl rfl rfl rfl ?_
        refine TL.assign rfl rfl ?_
        refine TL.done ?_
        exact hK2  _ _ (by repeat (first | exact trivial | refine ⟨rfl, ?_⟩ | refine ⟨congrArg (fun b => some (Value.bool b)) (by first | exact (decide_eq_true (by grind)).symm | exact (decide_eq_false (by grind)).symm | exact decide_eq_decide.2 (by grind) | exact decide_eq_true (by grind) | exact decide_eq_false (by grind) | (exfalso; grind)), ?_⟩)) (rfl)
      ·
        refine TL.move rfl rfl ?_
        refine TL.guardYes (d := 10) rfl rfl rfl ?_
        refine TL.move rfl rfl ?_
        refine TL.guardYes (d := 10) rfl rfl rfl ?_
        refine TL.lenSlice Try.underlying22 rfl rfl ?_
        refine TL.guardYes (d := 10) rfl rfl rfl ?_
        refine TL.gtr rfl rfl rfl ?_
        refine TL.pickF rfl rfl rfl rfl ?_
        refine TL.assign rfl rfl ?_
        refine TL.done ?_
        exact hK2  _ _ (by repeat (first | exact trivial | refine ⟨rfl, ?_⟩ | refine ⟨congrArg (fun b => some (Value.bool b)) (by first | exact (decide_eq_true (by grind)).symm | exact (decide_eq_false (by grind)).symm | exact decide_eq_decide.2 (by grind) | exact decide_eq_true (by grind) | exact decide_eq_false (by grind) | (exfalso; grind)), ?_⟩)) (rfl)
    ·
      refine TC.ret ?_
      refine Thn.ret ?_
      refine Ends.ret [2] rfl rfl ?_
      exact ⟨rfl, hH⟩
  ·
    have hlp : Audit.longP l ↔ ∃ r ∈ l, 3000 < r.user.length ∨ 3000 < r.deed.length ∨ 3000 < r.hash.length := by unfold Audit.longP; rw [if_neg (by omega)]
    refine TC.skip ?_
    refine Thn.go ?_
    refine TC.seq ?_
    refine TC.seq ?_
    refine TC.region ?_
    refine TL.assign rfl rfl ?_
    refine TL.done ?_
    refine Thn.go ?_
    refine TC.block ?_
    refine TC.loop1 (fun (i : Nat) => [(0, .slice ad l.length c), (3, .int .i64 (i : Int))]) (fun i w' => i ≤ l.length ∧ (∀ j, j < i → ¬ (3000 < (Audit.rec l j).user.length ∨ 3000 < (Audit.rec l j).deed.length ∨ 3000 < (Audit.rec l j).hash.length)) ∧ w' = w) (fun i => l.length - i) 0 (by repeat (first | exact trivial | refine ⟨rfl, ?_⟩)) (⟨by omega, by intro j hj; omega, rfl⟩) (fun i w' hH => ?_)
    obtain ⟨hi, hg, rfl⟩ := hH
    refine TC.seq ?_
    refine TC.seq ?_
    refine TC.region ?_
    refine TL.move rfl rfl ?_
    refine TL.move rfl rfl ?_
    refine TL.lenSlice Try.underlying22 rfl rfl ?_
    refine TL.lss rfl rfl rfl ?_
    refine TL.done ?_
    refine Thn.go ?_
    refine TC.condP rfl (fun h4 => ?_) (fun h4 => ?_)
    ·
      have hil : i < l.length := by omega
      obtain ⟨b1, o1, rfl, hce⟩ := recAt ha hil
      refine TC.skip ?_
      refine Thn.go ?_
      refine TC.seq ?_
      refine TC.block ?_
      refine TC.regionBool (d := 45) (p := (3000 < (Audit.rec l i).user.length ∨ 3000 < (Audit.rec l i).deed.length ∨ 3000 < (Audit.rec l i).hash.length)) (fun K5 hK5 => ?_) ?_
      ·
        refine TL.move rfl rfl ?_
        refine TL.move rfl rfl ?_
        refine TL.indexAddr (i) sl22 rfl rfl (by first | rfl | omega) (by omega) rfl ?_
        refine TL.fieldAddr fd32k2 rfl rfl ?_
        refine TL.load pl9 rfl ((show _ = some (str (Audit.rec l i).user) from hce 2 (by decide))) rfl ?_
        refine TL.lenStr Try.underlying9 rfl rfl ?_
        refine TL.gtr rfl rfl rfl ?_
        refine TL.em (fun e27 => ?_) (fun e27 => ?_)
        ·
          refine TL.move rfl rfl ?_
          refine TL.guardNo (d := 28) rfl rfl rfl rfl rfl ?_
          refine TL.guardNo (d := 28) rfl rfl rfl rfl rfl ?_
          refine TL.guardNo (d := 28) rfl rfl rfl rfl rfl ?_
          refine TL.guardNo (d := 28) rfl rfl rfl rfl rfl ?_
          refine TL.guardNo (d := 28) rfl rfl rfl rfl rfl ?_
          refine TL.guardNo (d := 28) rfl rfl rfl rfl rfl ?_
          refine TL.guardNo (d := 28) rfl rfl rfl rfl rfl ?_
          refine TL.pickT rfl rfl rfl rfl ?_
          refine TL.move rfl rfl ?_
          refine TL.guardNo (d := 37) rfl rfl rfl rfl rfl ?_
          refine TL.guardNo (d := 37) rfl rfl rfl rfl rfl ?_
          refine TL.guardNo (d := 37) rfl rfl rfl rfl rfl ?_
          refine TL.guardNo (d := 37) rfl rfl rfl rfl rfl ?_
          refine TL.guardNo (d := 37) rfl rfl rfl rfl rfl ?_
          refine TL.guardNo (d := 37) rfl rfl rfl rfl rfl ?_
          refine TL.guardNo (d := 37) rfl rfl rfl rfl rfl ?_
          refine TL.pickT rfl rfl rfl rfl ?_
          refine TL.done ?_
          refine hK5 _ ?_
          refine Le.here rfl (by first | exact decide_eq_true (by omega) | exact decide_eq_false (by omega) | exact decide_eq_decide.2 (by omega) | exact decide_eq_true (by grind) | exact decide_eq_false (by grind) | exact decide_eq_decide.2 (by grind)) ?_
          repeat (first | exact Le.refl _ | refine Le.skip rfl ?_)
        ·
          refine TL.move rfl rfl ?_
          refine TL.guardYes (d := 28) rfl rfl rfl ?_
          refine TL.move rfl rfl ?_
          refine TL.guardYes (d := 28) rfl rfl rfl ?_
          refine TL.move rfl rfl ?_
          refine TL.guardYes (d := 28) rfl rfl rfl ?_
          refine TL.indexAddr (i) sl22 rfl rfl (by first | rfl | omega) (by omega) rfl ?_
          refine TL.guardYes (d := 28) rfl rfl rfl ?_
          refine TL.fieldAddr fd32k3 rfl rfl ?_
          refine TL.guardYes (d := 28) rfl rfl rfl ?_
          refine TL.load pl9 rfl ((show _ = some (str (Audit.rec l i).deed) from hce 3 (by decide))) rfl ?_
          refine TL.guardYes (d := 28) rfl rfl rfl ?_
          refine TL.lenStr Try.underlying9 rfl rfl ?_
          refine TL.guardYes (d := 28) rfl rfl rfl ?_
          refine TL.gtr rfl rfl rfl ?_
          refine TL.em (fun e35 => ?_) (fun e35 => ?_)
          ·
            refine TL.pickF rfl rfl rfl rfl ?_
            refine TL.move rfl rfl ?_
            refine TL.guardNo (d := 37) rfl rfl rfl rfl rfl ?_
            refine TL.guardNo (d := 37) rfl rfl rfl rfl rfl ?_
            refine TL.guardNo (d := 37) rfl rfl rfl rfl rfl ?_
            refine TL.guardNo (d := 37) rfl rfl rfl rfl rfl ?_
            refine TL.guardNo (d := 37) rfl rfl rfl rfl rfl ?_
            refine TL.guardNo (d := 37) rfl rfl rfl rfl rfl ?_
            refine TL.guardNo (d := 37) rfl rfl rfl rfl rfl ?_
            refine TL.pickT rfl rfl rfl rfl ?_
            refine TL.done ?_
            refine hK5 _ ?_
            refine Le.here rfl (by first | exact decide_eq_true (by omega) | exact decide_eq_false (by omega) | exact decide_eq_decide.2 (by omega) | exact decide_eq_true (by grind) | exact decide_eq_false (by grind) | exact decide_eq_decide.2 (by grind)) ?_
            repeat (first | exact Le.refl _ | refine Le.skip rfl ?_)
          ·
            refine TL.pickF rfl rfl rfl rfl ?_
            refine TL.move rfl rfl ?_
            refine TL.guardYes (d := 37) rfl rfl rfl ?_
            refine TL.move rfl rfl ?_
            refine TL.guardYes (d := 37) rfl rfl rfl ?_
            refine TL.move rfl rfl ?_
            refine TL.guardYes (d := 37) rfl rfl rfl ?_
            refine TL.indexAddr (i) sl22 rfl rfl (by first | rfl | omega) (by omega) rfl ?_
            refine TL.guardYes (d := 37) rfl rfl rfl ?_
            refine TL.fieldAddr fd32k5 rfl rfl ?_
            refine TL.guardYes (d := 37) rfl rfl rfl ?_
            refine TL.load pl9 rfl ((show _ = some (str (Audit.rec l i).hash) from hce 5 (by decide))) rfl ?_
            refine TL.guardYes (d := 37) rfl rfl rfl ?_
            refine TL.lenStr Try.underlying9 rfl rfl ?_
            refine TL.guardYes (d := 37) rfl rfl rfl ?_
            refine TL.gtr rfl rfl rfl ?_
            refine TL.pickF rfl rfl rfl rfl ?_
            refine TL.done ?_
            refine hK5 _ ?_
            refine Le.here rfl (by first | exact decide_eq_true (by omega) | exact decide_eq_false (by omega) | exact decide_eq_decide.2 (by omega) | exact decide_eq_true (by grind) | exact decide_eq_false (by grind) | exact decide_eq_decide.2 (by grind)) ?_
            repeat (first | exact Le.refl _ | refine Le.skip rfl ?_)
      refine TC.condP rfl (fun h8 => ?_) (fun h8 => ?_)
      ·
        have hbad : (3000 < (Audit.rec l i).user.length ∨ 3000 < (Audit.rec l i).deed.length ∨ 3000 < (Audit.rec l i).hash.length) := by assumption
        refine TC.seq ?_
        refine TC.region ?_
        refine TL.assign rfl rfl ?_
        refine TL.done ?_
        refine Thn.go ?_
        refine TC.ret ?_
        refine Blk.ret ?_
        refine Thn.ret ?_
        refine Lp.ret ?_
        refine Blk.ret ?_
        refine Thn.ret ?_
        refine Ends.ret [2] rfl rfl ?_
        exact ⟨congrArg Value.bool (decide_eq_true (hlp.2 ⟨_, Audit.rec_mem hil, hbad⟩)).symm, rfl⟩
      ·
        have hbad : ¬ (3000 < (Audit.rec l i).user.length ∨ 3000 < (Audit.rec l i).deed.length ∨ 3000 < (Audit.rec l i).hash.length) := by assumption
        refine TC.skip ?_
        refine Blk.go ?_
        refine Thn.go ?_
        refine TC.region ?_
        refine TL.move rfl rfl ?_
        refine TL.add_i64 rfl rfl (by omega) (by omega) rfl ?_
        refine TL.assign rfl rfl ?_
        refine TL.done ?_
        refine Lp.go (i + 1) (by repeat (first | exact trivial | refine ⟨rfl, ?_⟩)) ?_ (by first | omega | (dsimp only; omega))
        refine ⟨by omega, fun j hj => ?_, rfl⟩
        rcases Nat.lt_or_ge j i with h | h
        · exact hg j h
        · rw [show j = i by omega]; exact hbad
    ·
      have hil : i = l.length := by omega
      subst hil
      refine TC.exit ?_
      refine Thn.exit ?_
      refine Lp.exit ?_
      refine Blk.hit ?_
      refine Thn.go ?_
      refine TC.seq ?_
      refine TC.region ?_
      refine TL.assign rfl rfl ?_
      refine TL.done ?_
      refine Thn.go ?_
      refine TC.ret ?_
      refine Ends.ret [2] rfl rfl ?_
      exact ⟨congrArg Value.bool (decide_eq_false (fun h => by obtain ⟨r, hr, hb⟩ := hlp.1 h; obtain ⟨j, hj, rfl⟩ := List.mem_iff_getElem.1 hr; rw [Audit.rec_eq hj] at hb; exact hg j hj hb)).symm, rfl⟩

theorem fn9 (a : Value) (l : List Audit.Record) (hl : l.length ≤ 100000) (w : World) (ha : Rd w a 6 l.length (l.flatMap cl)) : Rets Try.prog 9 #[a] w (fun v w' => (∃ g c, v = .slice (some ⟨g, 0, none⟩) (l.length + 1) c) ∧ Own w' w.heap.size 32 6 v (l.length + 1) ((l ++ [r77]).flatMap cl) ∧ Ch [] w w') := by
  have hmm : maxLen = 9223372036854775807 := rfl
  refine Rets.of (n := 11) (vs := [_]) Try.func9 rfl rfl rfl ?_
  refine TC.seq ?_
  refine TC.region ?_
  refine TL.assign rfl rfl ?_
  refine TL.done ?_
  refine Thn.go ?_
  refine TC.seq ?_
  refine TC.region ?_
  refine TL.assign rfl rfl ?_
  refine TL.done ?_
  refine Thn.go ?_
  refine TC.seq ?_
  refine TC.region ?_
  refine TL.move rfl rfl ?_
  refine TL.move rfl rfl ?_
  refine TL.append sl22 rfl rfl rfl (World.ownsRow_nil _ w.heap.size _ _) (News.ofRd Try.underlying22 (ha) (rows_one _)) (by omega) (by omega) (by omega) (fun v6 w6 hv6 hc6 _ => ?_)
  have q6 : Ch [] w w6 := Own.thenCh (World.ownsRow_nil w w.heap.size 32 6) (Ch.refl _ _) hc6
  have z6 := q6.size
  refine TL.assign rfl rfl ?_
  refine TL.done ?_
  refine Thn.go ?_
  refine TC.seq ?_
  refine TC.region ?_
  refine TL.move rfl rfl ?_
  refine TL.buildRec [2] [.const (Value.string {data := #[55, 55]})] (cl r77) rfl rfl (by kernel_rfl) rfl ?_
  refine TL.buildSlice [.tmp 8] sl22 rfl rfl rfl (by decide) (by first | simp [Value.cells]; done | simp [Value.cells, cl_len]; done) rfl (fun w9 hb9 hc9 hz9 => ?_)
  refine TL.append sl22 rfl rfl rfl (hv6.ch0 hc9) (News.ofRd Try.underlying22 (recOne hb9) (rows_one _)) (by omega) (by omega) (by omega) (fun v10 w10 hv10 hc10 _ => ?_)
  refine TL.assign rfl rfl ?_
  refine TL.done ?_
  refine Thn.go ?_
  refine TC.ret ?_
  refine Ends.ret [2] rfl rfl ?_
  refine ⟨?_, ?_, (hv6.ch0 hc9).thenCh (q6.trans0 hc9) hc10⟩
  · rw [Nat.zero_add] at hv10; exact hv10.form (by omega)
  · rw [Nat.zero_add, List.nil_append] at hv10
    rw [List.flatMap_append]; exact hv10

theorem own_prefix {w : World} {b g c n : Nat} {l m : List Audit.Record} (h : Own w b 32 6 (.slice (some ⟨g, 0, none⟩) n c) n ((l ++ m).flatMap cl)) (hn : l.length ≤ n) : Rd w (.slice (some ⟨g, 0, none⟩) l.length c) 6 l.length (l.flatMap cl) := by
  have := (Rd.ofOwn h).to (j := l.length) hn
  rwa [rows_take cl_len, List.take_left] at this
theorem fn21 (w : World) : Rets Try.prog 21 #[] w (fun v w' => v = .bool true ∧ Ch [] w w') := by
  refine Rets.of (n := 36) (vs := []) Try.func21 rfl rfl rfl ?_
  refine TC.seq ?_
  refine TC.region ?_
  refine TL.assign rfl rfl ?_
  refine TL.done ?_
  refine Thn.go ?_
  refine TC.seq ?_
  refine TC.region ?_
  refine TL.call can10 rfl rfl (fn10 _ [] 5 [97, 110, 110] [99, 114, 101, 97, 116, 101] 200 w (Rd.nil w 6) (by intro _ r hr; simp at hr)) (fun v6 w6 hr6 => ?_)
  obtain ⟨r6, rfl, hv6, hc6⟩ := hr6
  have ha0 : Audit.askedE [] = 0 := by decide
  have hf0 : ¬ (0 ≤ Audit.firstI [] ∨ (0 < ([] : List Audit.Record).length ∧ (5 : Int) < (Audit.rec [] (([] : List Audit.Record).length - 1)).at_)) := by decide
  obtain ⟨e1, e2⟩ := next_ok (l := []) (t := 5) (u := [97, 110, 110]) (d := [99, 114, 101, 97, 116, 101]) (o := 200) ha0 (by decide) (by decide) (by decide) (by decide) hf0
  obtain ⟨g1, g2⟩ := Audit.grows (l := []) (t := 5) (u := [97, 110, 110]) (d := [99, 114, 101, 97, 116, 101]) (o := 200) ha0 (by decide) (by decide) (by decide) (by decide) hf0
  rw [e1]
  rw [e2] at hv6
  obtain ⟨X, hX⟩ : ∃ X, Audit.newR [] 5 [97, 110, 110] [99, 114, 101, 97, 116, 101] 200 = X := ⟨_, rfl⟩
  have hXd : X.deed = [99, 114, 101, 97, 116, 101] := by rw [← hX]; rfl
  have hXh : X.hash.length ≤ 100000 := by rw [← hX]; show (Audit.hashed _ _).length ≤ _; rw [Audit.hashed_len]; omega
  rw [hX, List.nil_append] at hv6 g1 g2
  obtain ⟨gg, cc, rfl⟩ := hv6.form (by simp)
  refine TL.move rfl rfl ?_
  refine TL.extract rfl rfl rfl ?_
  refine TL.extract rfl rfl rfl ?_
  refine TL.assign rfl rfl ?_
  refine TL.assign rfl rfl ?_
  refine TL.done ?_
  refine Thn.go ?_
  refine TC.seq ?_
  refine TC.region ?_
  refine TL.move rfl rfl ?_
  refine TL.call can15 rfl rfl (fn15 _ [X] w6 (Rd.ofOwn hv6) (by intro _ r hr; rw [List.mem_singleton.1 hr]; exact hXh)) (fun v11 w11 hr11 => ?_)
  obtain ⟨rfl, hc11⟩ := hr11
  rw [Audit.checkN, if_pos g1, g1, g2]
  obtain ⟨b1, o1, e1', hce⟩ := recAt (i := 0) ((Rd.ofOwn hv6).ch0 hc11) (by simp)
  cases e1'
  refine TL.move rfl rfl ?_
  refine TL.extract rfl rfl rfl ?_
  refine TL.extract rfl rfl rfl ?_
  refine TL.assign rfl rfl ?_
  refine TL.assign rfl rfl ?_
  refine TL.done ?_
  refine Thn.go ?_
  refine TC.seq ?_
  refine TC.region ?_
  refine TL.move rfl rfl ?_
  refine TL.eql rfl rfl rfl ?_
  refine TL.yes (rfl) ?_
  refine TL.move rfl rfl ?_
  refine TL.guardYes (d := 16) rfl rfl rfl ?_
  refine TL.move rfl rfl ?_
  refine TL.guardYes (d := 16) rfl rfl rfl ?_
  refine TL.eql rfl rfl rfl ?_
  refine TL.yes (rfl) ?_
  refine TL.pickT rfl rfl rfl rfl ?_
  refine TL.move rfl rfl ?_
  refine TL.guardYes (d := 20) rfl rfl rfl ?_
  refine TL.move rfl rfl ?_
  refine TL.guardYes (d := 20) rfl rfl rfl ?_
  refine TL.eql rfl rfl rfl ?_
  refine TL.yes (rfl) ?_
  refine TL.pickT rfl rfl rfl rfl ?_
  refine TL.move rfl rfl ?_
  refine TL.guardYes (d := 24) rfl rfl rfl ?_
  refine TL.move rfl rfl ?_
  refine TL.guardYes (d := 24) rfl rfl rfl ?_
  refine TL.lenSlice Try.underlying22 rfl rfl ?_
  refine TL.guardYes (d := 24) rfl rfl rfl ?_
  refine TL.eql rfl rfl rfl ?_
  refine TL.yes (rfl) ?_
  refine TL.pickT rfl rfl rfl rfl ?_
  refine TL.move rfl rfl ?_
  refine TL.guardYes (d := 29) rfl rfl rfl ?_
  refine TL.move rfl rfl ?_
  refine TL.guardYes (d := 29) rfl rfl rfl ?_
  refine TL.indexAddr 0 sl22 rfl rfl rfl (by simp) rfl ?_
  refine TL.guardYes (d := 29) rfl rfl rfl ?_
  refine TL.fieldAddr fd32k3 rfl rfl ?_
  refine TL.guardYes (d := 29) rfl rfl rfl ?_
  refine TL.load pl9 rfl ((show _ = some (str X.deed) from hce 3 (by decide))) rfl ?_
  refine TL.guardYes (d := 29) rfl rfl rfl ?_
  refine TL.eqlStr rfl rfl rfl ?_
  refine TL.yes (hXd) ?_
  refine TL.pickT rfl rfl rfl rfl ?_
  refine TL.assign rfl rfl ?_
  refine TL.done ?_
  refine Thn.go ?_
  refine TC.ret ?_
  refine Ends.ret [0] rfl rfl ?_
  exact ⟨rfl, hc6.trans0 hc11⟩

theorem fn3 (a : Value) (l : List Audit.Record) (t : Int) (u d : List UInt8) (o : Int) (w : World) (ha : Rd w a 6 l.length (l.flatMap cl)) : Rets Try.prog 3 #[a, .int .i64 t, str u, str d, .int .i64 o] w (fun v w' => v = .bool true ∧ Ch [] w w') := by
  obtain ⟨ad, c, rfl, _⟩ := ha.shape
  refine Rets.of (n := 95) (vs := [_, _, _, _, _]) Try.func3 rfl rfl rfl ?_
  refine TC.seq ?_
  refine TC.region ?_
  refine TL.assign rfl rfl ?_
  refine TL.done ?_
  refine Thn.go ?_
  refine TC.seq ?_
  refine TC.cut0 ([(0, .slice ad l.length c), (1, .int .i64 t), (2, str u), (3, str d), (4, .int .i64 o), (39, .bool (decide (Audit.longP l ∨ 3000 < u.length ∨ (3000 < d.length ∧ d.length ≤ 16384) ∨ 17000 < d.length)))]) (fun w2 => w2 = w) (fun K1 hK1 => ?_) (fun w2 hH => ?_)
  ·
    refine TC.region ?_
    refine TL.move rfl rfl ?_
    refine TL.call can8 rfl rfl (fn8 _ l w ha) (fun v19 w19 hr19 => ?_)
    obtain ⟨rfl, rfl⟩ := hr19
    refine TL.em (fun e19 => ?_) (fun e19 => ?_)
    ·
      refine TL.move rfl rfl ?_
      refine TL.guardNo (d := 20) rfl rfl rfl rfl rfl ?_
      refine TL.guardNo (d := 20) rfl rfl rfl rfl rfl ?_
      refine TL.guardNo (d := 20) rfl rfl rfl rfl rfl ?_
      refine TL.pickT rfl rfl rfl rfl ?_
      refine TL.move rfl rfl ?_
      refine TL.guardNo (d := 25) rfl rfl rfl rfl rfl ?_
      refine TL.guardNo (d := 25) rfl rfl rfl rfl rfl ?_
      refine TL.guardNo (d := 25) rfl rfl rfl rfl rfl ?_
      refine TL.guardNo (d := 25) rfl rfl rfl rfl rfl ?_
      refine TL.guardUndef (d := 29) rfl rfl rfl rfl ?_
      refine TL.guardUndef (d := 29) rfl rfl rfl rfl ?_
      refine TL.guardUndef (d := 29) rfl rfl rfl rfl ?_
      refine TL.guardNo (d := 25) rfl rfl rfl rfl rfl ?_
      refine TL.pickT rfl rfl rfl rfl ?_
      refine TL.move rfl rfl ?_
      refine TL.guardNo (d := 35) rfl rfl rfl rfl rfl ?_
      refine TL.guardNo (d := 35) rfl rfl rfl rfl rfl ?_
      refine TL.guardNo (d := 35) rfl rfl rfl rfl rfl ?_
      refine TL.pickT rfl rfl rfl rfl ?_
      refine TL.done ?_
      exact hK1  _ _ (by repeat (first | exact trivial | refine ⟨rfl, ?_⟩ | refine ⟨congrArg (fun b => some (Value.bool b)) (by first | exact (decide_eq_true (by grind)).symm | exact (decide_eq_false (by grind)).symm | exact decide_eq_decide.2 (by grind) | exact decide_eq_true (by grind) | exact decide_eq_false (by grind) | (exfalso; grind)), ?_⟩)) (rfl)
    ·
      refine TL.move rfl rfl ?_
      refine TL.guardYes (d := 20) rfl rfl rfl ?_
      refine TL.move rfl rfl ?_
      refine TL.guardYes (d := 20) rfl rfl rfl ?_
      refine TL.lenStr Try.underlying9 rfl rfl ?_
      refine TL.guardYes (d := 20) rfl rfl rfl ?_
      refine TL.gtr rfl rfl rfl ?_
      refine TL.em (fun e23 => ?_) (fun e23 => ?_)
      ·
        refine TL.pickF rfl rfl rfl rfl ?_
        refine TL.move rfl rfl ?_
        refine TL.guardNo (d := 25) rfl rfl rfl rfl rfl ?_
        refine TL.guardNo (d := 25) rfl rfl rfl rfl rfl ?_
        refine TL.guardNo (d := 25) rfl rfl rfl rfl rfl ?_
        refine TL.guardNo (d := 25) rfl rfl rfl rfl rfl ?_
        refine TL.guardUndef (d := 29) rfl rfl rfl rfl ?_
        refine TL.guardUndef (d := 29) rfl rfl rfl rfl ?_
        refine TL.guardUndef (d := 29) rfl rfl rfl rfl ?_
        refine TL.guardNo (d := 25) rfl rfl rfl rfl rfl ?_
        refine TL.pickT rfl rfl rfl rfl ?_
        refine TL.move rfl rfl ?_
        refine TL.guardNo (d := 35) rfl rfl rfl rfl rfl ?_
        refine TL.guardNo (d := 35) rfl rfl rfl rfl rfl ?_
        refine TL.guardNo (d := 35) rfl rfl rfl rfl rfl ?_
        refine TL.pickT rfl rfl rfl rfl ?_
        refine TL.done ?_
        exact hK1  _ _ (by repeat (first | exact trivial | refine ⟨rfl, ?_⟩ | refine ⟨congrArg (fun b => some (Value.bool b)) (by first | exact (decide_eq_true (by grind)).symm | exact (decide_eq_false (by grind)).symm | exact decide_eq_decide.2 (by grind) | exact decide_eq_true (by grind) | exact decide_eq_false (by grind) | (exfalso; grind)), ?_⟩)) (rfl)
      ·
        refine TL.pickF rfl rfl rfl rfl ?_
        refine TL.move rfl rfl ?_
        refine TL.guardYes (d := 25) rfl rfl rfl ?_
        refine TL.move rfl rfl ?_
        refine TL.guardYes (d := 25) rfl rfl rfl ?_
        refine TL.lenStr Try.underlying9 rfl rfl ?_
        refine TL.guardYes (d := 25) rfl rfl rfl ?_
        refine TL.gtr rfl rfl rfl ?_
        refine TL.em (fun e28 => ?_) (fun e28 => ?_)
        ·
          refine TL.guardYes (d := 25) rfl rfl rfl ?_
          refine TL.move rfl rfl ?_
          refine TL.guardYes (d := 29) rfl rfl rfl ?_
          refine TL.move rfl rfl ?_
          refine TL.guardYes (d := 29) rfl rfl rfl ?_
          refine TL.lenStr Try.underlying9 rfl rfl ?_
          refine TL.guardYes (d := 29) rfl rfl rfl ?_
          refine TL.leq rfl rfl rfl ?_
          refine TL.em (fun e32 => ?_) (fun e32 => ?_)
          ·
            refine TL.guardYes (d := 25) rfl rfl rfl ?_
            refine TL.pickT rfl rfl rfl rfl ?_
            refine TL.pickF rfl rfl rfl rfl ?_
            refine TL.move rfl rfl ?_
            refine TL.guardNo (d := 35) rfl rfl rfl rfl rfl ?_
            refine TL.guardNo (d := 35) rfl rfl rfl rfl rfl ?_
            refine TL.guardNo (d := 35) rfl rfl rfl rfl rfl ?_
            refine TL.pickT rfl rfl rfl rfl ?_
            refine TL.done ?_
            exact hK1  _ _ (by repeat (first | exact trivial | refine ⟨rfl, ?_⟩ | refine ⟨congrArg (fun b => some (Value.bool b)) (by first | exact (decide_eq_true (by grind)).symm | exact (decide_eq_false (by grind)).symm | exact decide_eq_decide.2 (by grind) | exact decide_eq_true (by grind) | exact decide_eq_false (by grind) | (exfalso; grind)), ?_⟩)) (rfl)
          ·
            refine TL.guardYes (d := 25) rfl rfl rfl ?_
            refine TL.pickT rfl rfl rfl rfl ?_
            refine TL.pickF rfl rfl rfl rfl ?_
            refine TL.move rfl rfl ?_
            refine TL.guardYes (d := 35) rfl rfl rfl ?_
            refine TL.move rfl rfl ?_
            refine TL.guardYes (d := 35) rfl rfl rfl ?_
            refine TL.lenStr Try.underlying9 rfl rfl ?_
            refine TL.guardYes (d := 35) rfl rfl rfl ?_
            refine TL.gtr rfl rfl rfl ?_
            refine TL.pickF rfl rfl rfl rfl ?_
            refine TL.done ?_
            exact hK1  _ _ (by repeat (first | exact trivial | refine ⟨rfl, ?_⟩ | refine ⟨congrArg (fun b => some (Value.bool b)) (by first | exact (decide_eq_true (by grind)).symm | exact (decide_eq_false (by grind)).symm | exact decide_eq_decide.2 (by grind) | exact decide_eq_true (by grind) | exact decide_eq_false (by grind) | (exfalso; grind)), ?_⟩)) (rfl)
        ·
          refine TL.guardYes (d := 25) rfl rfl rfl ?_
          refine TL.move rfl rfl ?_
          refine TL.guardNo (d := 29) rfl rfl rfl rfl rfl ?_
          refine TL.guardNo (d := 29) rfl rfl rfl rfl rfl ?_
          refine TL.guardNo (d := 29) rfl rfl rfl rfl rfl ?_
          refine TL.guardYes (d := 25) rfl rfl rfl ?_
          refine TL.pickF rfl rfl rfl rfl ?_
          refine TL.pickF rfl rfl rfl rfl ?_
          refine TL.move rfl rfl ?_
          refine TL.guardYes (d := 35) rfl rfl rfl ?_
          refine TL.move rfl rfl ?_
          refine TL.guardYes (d := 35) rfl rfl rfl ?_
          refine TL.lenStr Try.underlying9 rfl rfl ?_
          refine TL.guardYes (d := 35) rfl rfl rfl ?_
          refine TL.gtr rfl rfl rfl ?_
          refine TL.pickF rfl rfl rfl rfl ?_
          refine TL.done ?_
          exact hK1  _ _ (by repeat (first | exact trivial | refine ⟨rfl, ?_⟩ | refine ⟨congrArg (fun b => some (Value.bool b)) (by first | exact (decide_eq_true (by grind)).symm | exact (decide_eq_false (by grind)).symm | exact decide_eq_decide.2 (by grind) | exact decide_eq_true (by grind) | exact decide_eq_false (by grind) | (exfalso; grind)), ?_⟩)) (rfl)
  ·
    subst hH
    refine TC.condP rfl (fun h6 => ?_) (fun h6 => ?_)
    ·
      refine TC.seq ?_
      refine TC.region ?_
      refine TL.assign rfl rfl ?_
      refine TL.done ?_
      refine Thn.go ?_
      refine TC.ret ?_
      refine Thn.ret ?_
      refine Ends.ret [10] rfl rfl ?_
      exact ⟨rfl, Ch.refl _ _⟩
    ·
      have hno : ¬ (Audit.longP l ∨ 3000 < u.length ∨ (3000 < d.length ∧ d.length ≤ 16384) ∨ 17000 < d.length) := by assumption
      obtain ⟨hlen, hlh⟩ := Audit.not_long (l := l) (fun h => hno (.inl h))
      refine TC.skip ?_
      refine Thn.go ?_
      refine TC.seq ?_
      refine TC.region ?_
      refine TL.move rfl rfl ?_
      refine TL.call can9 rfl rfl (fn9 _ l (by omega) _ ha) (fun v41 w41 hr41 => ?_)
      obtain ⟨⟨g41, c41, rfl⟩, hv41, hc41⟩ := hr41
      have hcap := (Rd.ofOwn hv41).cap
      refine TL.assign rfl rfl ?_
      refine TL.done ?_
      refine Thn.go ?_
      refine TC.seq ?_
      refine TC.region ?_
      refine TL.move rfl rfl ?_
      refine TL.move rfl rfl ?_
      refine TL.lenSlice Try.underlying22 rfl rfl ?_
      refine TL.sliceTo (l.length) sl22 rfl rfl (by first | rfl | omega) (by omega) rfl ?_
      have ho := own_prefix hv41 (by omega)
      refine TL.assign rfl rfl ?_
      refine TL.done ?_
      refine Thn.go ?_
      refine TC.seq ?_
      refine TC.region ?_
      refine TL.move rfl rfl ?_
      refine TL.move rfl rfl ?_
      refine TL.move rfl rfl ?_
      refine TL.move rfl rfl ?_
      refine TL.move rfl rfl ?_
      refine TL.call can10 rfl rfl (fn10 _ l t u d o w41 ho hlh) (fun v52 w52 hr52 => ?_)
      obtain ⟨r52, rfl, hv52, hc52⟩ := hr52
      refine TL.move rfl rfl ?_
      refine TL.extract rfl rfl rfl ?_
      refine TL.extract rfl rfl rfl ?_
      refine TL.assign rfl rfl ?_
      refine TL.assign rfl rfl ?_
      refine TL.done ?_
      refine Thn.go ?_
      refine TC.seq ?_
      refine TC.region ?_
      refine TL.move rfl rfl ?_
      refine TL.move rfl rfl ?_
      refine TL.move rfl rfl ?_
      refine TL.move rfl rfl ?_
      refine TL.move rfl rfl ?_
      refine TL.call can11 rfl rfl (fn11 _ l t u d o w52 ((ha.ch0 hc41).ch0 hc52) hlh) (fun v61 w61 hr61 => ?_)
      obtain ⟨r61, rfl, hv61, hc61⟩ := hr61
      refine TL.move rfl rfl ?_
      refine TL.extract rfl rfl rfl ?_
      refine TL.extract rfl rfl rfl ?_
      refine TL.assign rfl rfl ?_
      refine TL.assign rfl rfl ?_
      refine TL.done ?_
      refine Thn.go ?_
      refine TC.seq ?_
      refine TC.seq ?_
      refine TC.region ?_
      refine TL.move rfl rfl ?_
      refine TL.move rfl rfl ?_
      refine TL.neq rfl rfl rfl ?_
      refine TL.no (by simp) ?_
      refine TL.move rfl rfl ?_
      refine TL.guardYes (d := 67) rfl rfl rfl ?_
      refine TL.move rfl rfl ?_
      refine TL.guardYes (d := 67) rfl rfl rfl ?_
      refine TL.move rfl rfl ?_
      refine TL.guardYes (d := 67) rfl rfl rfl ?_
      refine TL.call can12 rfl rfl (fn12 _ _ _ _ w61 ((Rd.ofOwn hv52).ch0 hc61) (Rd.ofOwn hv61)) (fun v70 w70 hr70 => ?_)
      obtain ⟨rfl, hc70⟩ := hr70
      obtain ⟨N, hN⟩ : ∃ N, Audit.nextL l t u d o = N := ⟨_, rfl⟩
      rw [hN] at hv52
      obtain ⟨a52, c52, rfl⟩ := hv52.shape
      have hv70 := (hv52.ch0 hc61).ch0 hc70
      have hNm := (Rd.ofOwn hv70).nlt
      have hmm : maxLen = 9223372036854775807 := rfl
      refine TL.yes (rfl) ?_
      refine TL.guardYes (d := 67) rfl rfl rfl ?_
      refine TL.not rfl rfl ?_
      refine TL.pickF rfl rfl rfl rfl ?_
      refine TL.done ?_
      refine Thn.go ?_
      refine TC.condF rfl rfl ?_
      refine TC.skip ?_
      refine Thn.go ?_
      refine TC.seq ?_
      refine TC.seq ?_
      refine TC.region ?_
      refine TL.assign rfl rfl ?_
      refine TL.done ?_
      refine Thn.go ?_
      refine TC.block ?_
      refine TC.loop1 (fun (i : Nat) => [(0, .slice ad l.length c), (11, .slice (some ⟨g41, 0, none⟩) (l.length + 1) c41), (12, .slice (some ⟨g41, 0, none⟩) l.length c41), (13, .slice a52 N.length c52), (17, .int .i64 (i : Int))]) (fun i w' => i ≤ N.length ∧ (∃ N' : List Audit.Record, N'.length = N.length ∧ Own w' w41.heap.size 32 6 (.slice a52 N.length c52) N.length (N'.flatMap cl)) ∧ Ch [] w41 w') (fun i => N.length - i) 0 (by repeat (first | exact trivial | refine ⟨rfl, ?_⟩)) (⟨by omega, ⟨N, rfl, hv70⟩, (hc52.trans0 hc61).trans0 hc70⟩) (fun i w' hH => ?_)
      obtain ⟨hi, ⟨N', hN', hown⟩, hch⟩ := hH
      refine TC.seq ?_
      refine TC.seq ?_
      refine TC.region ?_
      refine TL.move rfl rfl ?_
      refine TL.move rfl rfl ?_
      refine TL.lenSlice Try.underlying22 rfl rfl ?_
      refine TL.lss rfl rfl rfl ?_
      refine TL.done ?_
      refine Thn.go ?_
      refine TC.condP rfl (fun h8 => ?_) (fun h8 => ?_)
      ·
        have hil : i < N.length := by omega
        obtain ⟨gs, cs, e⟩ := hown.form (by omega)
        cases e
        rw [← hN'] at hown
        obtain ⟨cur, hcur, hcsz, hcn, _, hgb, _⟩ := hown.has
        refine TC.skip ?_
        refine Thn.go ?_
        refine TC.seq ?_
        refine TC.block ?_
        refine TC.region ?_
        refine TL.move rfl rfl ?_
        refine TL.move rfl rfl ?_
        refine TL.buildRec [2] [.const (Value.string {data := #[55, 55]})] (cl r77) rfl rfl (by kernel_rfl) rfl ?_
        refine TL.indexAddr (i) sl22 rfl rfl (by first | rfl | omega) (by omega) rfl ?_
        refine TL.store sz32 rfl rfl rfl hcur (by rw [hcsz]; have := Nat.mul_le_mul_right 6 (show i + 1 ≤ c52 by omega); omega) (by simpa [Value.cells] using cl_one r77) (.inl rfl) (fun ws1 hbs1 hcs1 hzs1 => ?_)
        have hown2 := hown.setRec cl_len hcur (k := i) (x := r77) (by omega) hbs1
        rw [hN'] at hown2
        refine TL.done ?_
        refine Blk.go ?_
        refine Thn.go ?_
        refine TC.region ?_
        refine TL.move rfl rfl ?_
        refine TL.add_i64 rfl rfl (by omega) (by omega) rfl ?_
        refine TL.assign rfl rfl ?_
        refine TL.done ?_
        refine Lp.go (i + 1) (by repeat (first | exact trivial | refine ⟨rfl, ?_⟩)) ?_ (by first | omega | (dsimp only; omega))
        exact ⟨by omega, ⟨N'.set i r77, by rw [List.length_set, hN'], hown2⟩, hch.then1 hcs1 hgb⟩
      ·
        refine TC.exit ?_
        refine Thn.exit ?_
        refine Lp.exit ?_
        refine Blk.hit ?_
        refine Thn.go ?_
        refine TC.seq ?_
        refine TC.region ?_
        refine TL.move rfl rfl ?_
        refine TL.move rfl rfl ?_
        refine TL.call can12 rfl rfl (fn12 _ _ l l w' (ho.ch0 hch) ((ha.ch0 hc41).ch0 hch)) (fun v85 w85 hr85 => ?_)
        obtain ⟨rfl, hc85⟩ := hr85
        refine TL.yes (rfl) ?_
        refine TL.move rfl rfl ?_
        refine TL.guardYes (d := 86) rfl rfl rfl ?_
        refine TL.move rfl rfl ?_
        refine TL.guardYes (d := 86) rfl rfl rfl ?_
        refine TL.move rfl rfl ?_
        refine TL.guardYes (d := 86) rfl rfl rfl ?_
        refine TL.lenSlice Try.underlying22 rfl rfl ?_
        refine TL.guardYes (d := 86) rfl rfl rfl ?_
        refine TL.indexAddr (l.length) sl22 rfl rfl (by first | rfl | omega) (by omega) rfl ?_
        refine TL.guardYes (d := 86) rfl rfl rfl ?_
        refine TL.loadAgg (cl r77) ag32 rfl rfl (fun j hj => by obtain ⟨b', o', e, hh⟩ := recAt (i := l.length) (l := l ++ [r77]) (by rw [List.length_append]; exact ((Rd.ofOwn hv41).ch0 hch).ch0 hc85) (by simp); cases e; rw [Audit.rec_last] at hh; exact hh j hj) rfl ?_
        refine TL.guardYes (d := 86) rfl rfl rfl ?_
        refine TL.buildRec [2] [.const (Value.string {data := #[55, 55]})] (cl r77) rfl rfl (by kernel_rfl) rfl ?_
        refine TL.guardYes (d := 86) rfl rfl rfl ?_
        refine TL.eqlAgg gd32 (eqRecord _ _ _) rfl rfl rfl ?_
        refine TL.yes (rfl) ?_
        refine TL.pickT rfl rfl rfl rfl ?_
        refine TL.assign rfl rfl ?_
        refine TL.done ?_
        refine Thn.go ?_
        refine TC.ret ?_
        refine Ends.ret [10] rfl rfl ?_
        exact ⟨rfl, (hc41.trans0 hch).trans0 hc85⟩

