/-
  Walks through the given program: each theorem fnN says what the call of function N of the translation hands back, for all arguments that its premises describe, and that nothing that was there has turned.
-/
import Derived.Test.YtcoaophfojkldaaR3
namespace Go.Proofs.Ytcoaophfojkldaa
open Go.Lane
theorem can19 : Callable Try.prog 19 := ⟨Try.f19, Try.func19, by kernel_rfl, rfl⟩
theorem next_asked {l : List Audit.Record} {t o : Int} {u d : List UInt8} (h : Audit.askedE l ≠ 0) : Audit.nextE l t u d o = Audit.askedE l := if_pos h
theorem next_none {l : List Audit.Record} {t o : Int} {u d : List UInt8} (h : Audit.nextE l t u d o ≠ 0) : Audit.nextL l t u d o = [] := if_neg h
theorem next_time {l : List Audit.Record} {t o : Int} {u d : List UInt8} (h : Audit.askedE l = 0) (h1 : t < 0 ∨ 1099511627776 < t) : Audit.nextE l t u d o = 2 := by
  rw [Audit.nextE, if_neg (by omega), if_pos h1]
theorem next_text {l : List Audit.Record} {t o : Int} {u d : List UInt8} (h : Audit.askedE l = 0) (h1 : ¬ (t < 0 ∨ 1099511627776 < t)) (h2 : 32 < u.length ∨ 16384 < d.length) : Audit.nextE l t u d o = 3 := by
  rw [Audit.nextE, if_neg (by omega), if_neg h1, if_pos h2]
theorem next_out {l : List Audit.Record} {t o : Int} {u d : List UInt8} (h : Audit.askedE l = 0) (h1 : ¬ (t < 0 ∨ 1099511627776 < t)) (h2 : ¬ (32 < u.length ∨ 16384 < d.length)) (h3 : o < 100 ∨ 599 < o) : Audit.nextE l t u d o = 2 := by
  rw [Audit.nextE, if_neg (by omega), if_neg h1, if_neg h2, if_pos h3]
theorem next_many {l : List Audit.Record} {t o : Int} {u d : List UInt8} (h : Audit.askedE l = 0) (h1 : ¬ (t < 0 ∨ 1099511627776 < t)) (h2 : ¬ (32 < u.length ∨ 16384 < d.length)) (h3 : ¬ (o < 100 ∨ 599 < o)) (h4 : l.length = 4096) : Audit.nextE l t u d o = 4 := by
  rw [Audit.nextE, if_neg (by omega), if_neg h1, if_neg h2, if_neg h3, if_pos h4]
theorem next_chain {l : List Audit.Record} {t o : Int} {u d : List UInt8} (h : Audit.askedE l = 0) (h1 : ¬ (t < 0 ∨ 1099511627776 < t)) (h2 : ¬ (32 < u.length ∨ 16384 < d.length)) (h3 : ¬ (o < 100 ∨ 599 < o)) (h4 : ¬ l.length = 4096)
    (h5 : 0 ≤ Audit.firstI l ∨ (0 < l.length ∧ t < (Audit.rec l (l.length - 1)).at_)) : Audit.nextE l t u d o = 150 := by
  rw [Audit.nextE, if_neg (by omega), if_neg h1, if_neg h2, if_neg h3, if_neg h4, if_pos h5]
theorem next_ok {l : List Audit.Record} {t o : Int} {u d : List UInt8} (h : Audit.askedE l = 0) (h1 : ¬ (t < 0 ∨ 1099511627776 < t)) (h2 : ¬ (32 < u.length ∨ 16384 < d.length)) (h3 : ¬ (o < 100 ∨ 599 < o)) (h4 : ¬ l.length = 4096)
    (h5 : ¬ (0 ≤ Audit.firstI l ∨ (0 < l.length ∧ t < (Audit.rec l (l.length - 1)).at_))) : Audit.nextE l t u d o = 0 ∧ Audit.nextL l t u d o = l ++ [Audit.newR l t u d o] := by
  have e : Audit.nextE l t u d o = 0 := by rw [Audit.nextE, if_neg (by omega), if_neg h1, if_neg h2, if_neg h3, if_neg h4, if_neg h5]
  exact ⟨e, if_pos e⟩

theorem fn10 (a : Value) (l : List Audit.Record) (t : Int) (u d : List UInt8) (o : Int) (w : World) (ha : Rd w a 6 l.length (l.flatMap cl)) (hl : l.length ≤ 4096 → ∀ r ∈ l, r.hash.length ≤ 100000) : Rets Try.prog 10 #[a, .int .i64 t, str u, str d, .int .i64 o] w (fun v w' => ∃ r, v = .tuple #[r, .int .i64 (Audit.nextE l t u d o : Int)] ∧ Own w' w.heap.size 32 6 r (Audit.nextL l t u d o).length ((Audit.nextL l t u d o).flatMap cl) ∧ Ch [] w w') := by
  obtain ⟨ad, c, rfl, _⟩ := ha.shape
  have hmm : maxLen = 9223372036854775807 := rfl
  refine Rets.of (n := 79) (vs := [_, _, _, _, _]) Try.func10 rfl rfl rfl ?_
  refine TC.seq ?_
  refine TC.region ?_
  refine TL.assign rfl rfl ?_
  refine TL.assign rfl rfl ?_
  refine TL.done ?_
  refine Thn.go ?_
  refine TC.seq ?_
  refine TC.seq ?_
  refine TC.region ?_
  refine TL.move rfl rfl ?_
  refine TL.call can24 rfl rfl (fn24 _ l w ha hl) (fun v17 w17 hr17 => ?_)
  obtain ⟨rfl, hc17⟩ := hr17
  refine TL.assign rfl rfl ?_
  refine TL.done ?_
  refine Thn.go ?_
  refine TC.seq ?_
  refine TC.region ?_
  refine TL.move rfl rfl ?_
  refine TL.neq rfl rfl rfl ?_
  refine TL.done ?_
  refine Thn.go ?_
  refine TC.condP rfl (fun h1 => ?_) (fun h1 => ?_)
  ·
    have e1 := next_asked (t := t) (o := o) (u := u) (d := d) (show Audit.askedE l ≠ 0 by omega)
    refine TC.seq ?_
    refine TC.region ?_
    refine TL.move rfl rfl ?_
    refine TL.assign rfl rfl ?_
    refine TL.assign rfl rfl ?_
    refine TL.done ?_
    refine Thn.go ?_
    refine TC.ret ?_
    refine Thn.ret ?_
    refine Ends.ret [10, 11] rfl rfl ?_
    exact ⟨_, by rw [e1]; rfl, by rw [next_none (by omega)]; exact World.ownsRow_nil _ _ _ _, hc17⟩
  ·
    have h0 : Audit.askedE l = 0 := by omega
    obtain ⟨hlen, hmay⟩ := Audit.asked_zero h0
    refine TC.skip ?_
    refine Thn.go ?_
    refine TC.seq ?_
    refine TC.block ?_
    refine TC.cut0 ([(0, .slice ad l.length c), (1, .int .i64 t), (2, str u), (3, str d), (4, .int .i64 o), (21, .bool (decide (t < 0 ∨ 1099511627776 < t)))]) (fun w2 => w2 = w17) (fun K2 hK2 => ?_) (fun w2 hH => ?_)
    ·
      refine TC.seq ?_
      refine TC.region ?_
      refine TL.move rfl rfl ?_
      refine TL.lss rfl rfl rfl ?_
      refine TL.assign rfl rfl ?_
      refine TL.done ?_
      refine Thn.go ?_
      refine TC.condP rfl (fun h3 => ?_) (fun h3 => ?_)
      ·
        refine TC.skip ?_
        exact hK2  _ _ (by repeat (first | exact trivial | refine ⟨rfl, ?_⟩ | refine ⟨congrArg (fun b => some (Value.bool b)) (by first | exact (decide_eq_true (by grind)).symm | exact (decide_eq_false (by grind)).symm | exact decide_eq_decide.2 (by grind) | exact decide_eq_true (by grind) | exact decide_eq_false (by grind) | (exfalso; grind)), ?_⟩)) (rfl)
      ·
        refine TC.region ?_
        refine TL.move rfl rfl ?_
        refine TL.gtr rfl rfl rfl ?_
        refine TL.assign rfl rfl ?_
        refine TL.done ?_
        exact hK2  _ _ (by repeat (first | exact trivial | refine ⟨rfl, ?_⟩ | refine ⟨congrArg (fun b => some (Value.bool b)) (by first | exact (decide_eq_true (by grind)).symm | exact (decide_eq_false (by grind)).symm | exact decide_eq_decide.2 (by grind) | exact decide_eq_true (by grind) | exact decide_eq_false (by grind) | (exfalso; grind)), ?_⟩)) (rfl)
    ·
      subst hH
      refine TC.condP rfl (fun h4 => ?_) (fun h4 => ?_)
      ·
        have e1 := next_time (o := o) (u := u) (d := d) h0 h4
        refine TC.seq ?_
        refine TC.region ?_
        refine TL.assign rfl rfl ?_
        refine TL.assign rfl rfl ?_
        refine TL.done ?_
        refine Thn.go ?_
        refine TC.ret ?_
        refine Blk.ret ?_
        refine Thn.ret ?_
        refine Ends.ret [10, 11] rfl rfl ?_
        exact ⟨_, by rw [e1]; rfl, by rw [next_none (by omega)]; exact World.ownsRow_nil _ _ _ _, hc17⟩
      ·
        refine TC.cut0 ([(0, .slice ad l.length c), (1, .int .i64 t), (2, str u), (3, str d), (4, .int .i64 o), (26, .bool (decide (32 < u.length ∨ 16384 < d.length)))]) (fun w3 => w3 = w2) (fun K5 hK5 => ?_) (fun w3 hH => ?_)
        ·
          refine TC.seq ?_
          refine TC.region ?_
          refine TL.move rfl rfl ?_
          refine TL.lenStr Try.underlying9 rfl rfl ?_
          refine TL.gtr rfl rfl rfl ?_
          refine TL.assign rfl rfl ?_
          refine TL.done ?_
          refine Thn.go ?_
          refine TC.condP rfl (fun h6 => ?_) (fun h6 => ?_)
          ·
            refine TC.skip ?_
            exact hK5  _ _ (by repeat (first | exact trivial | refine ⟨rfl, ?_⟩ | refine ⟨congrArg (fun b => some (Value.bool b)) (by first | exact (decide_eq_true (by grind)).symm | exact (decide_eq_false (by grind)).symm | exact decide_eq_decide.2 (by grind) | exact decide_eq_true (by grind) | exact decide_eq_false (by grind) | (exfalso; grind)), ?_⟩)) (rfl)
          ·
            refine TC.region ?_
            refine TL.move rfl rfl ?_
            refine TL.lenStr Try.underlying9 rfl rfl ?_
            refine TL.gtr rfl rfl rfl ?_
            refine TL.assign rfl rfl ?_
            refine TL.done ?_
            exact hK5  _ _ (by repeat (first | exact trivial | refine ⟨rfl, ?_⟩ | refine ⟨congrArg (fun b => some (Value.bool b)) (by first | exact (decide_eq_true (by grind)).symm | exact (decide_eq_false (by grind)).symm | exact decide_eq_decide.2 (by grind) | exact decide_eq_true (by grind) | exact decide_eq_false (by grind) | (exfalso; grind)), ?_⟩)) (rfl)
        ·
          subst hH
          refine TC.condP rfl (fun h7 => ?_) (fun h7 => ?_)
          ·
            have e1 := next_text (o := o) h0 h4 h7
            refine TC.seq ?_
            refine TC.region ?_
            refine TL.assign rfl rfl ?_
            refine TL.assign rfl rfl ?_
            refine TL.done ?_
            refine Thn.go ?_
            refine TC.ret ?_
            refine Blk.ret ?_
            refine Thn.ret ?_
            refine Ends.ret [10, 11] rfl rfl ?_
            exact ⟨_, by rw [e1]; rfl, by rw [next_none (by omega)]; exact World.ownsRow_nil _ _ _ _, hc17⟩
          ·
            refine TC.cut0 ([(0, .slice ad l.length c), (1, .int .i64 t), (2, str u), (3, str d), (4, .int .i64 o), (33, .bool (decide (o < 100 ∨ 599 < o)))]) (fun w4 => w4 = w3) (fun K8 hK8 => ?_) (fun w4 hH => ?_)
            ·
              refine TC.seq ?_
              refine TC.region ?_
              refine TL.move rfl rfl ?_
              refine TL.lss rfl rfl rfl ?_
              refine TL.assign rfl rfl ?_
              refine TL.done ?_
              refine Thn.go ?_
              refine TC.condP rfl (fun h9 => ?_) (fun h9 => ?_)
              ·
                refine TC.skip ?_
                exact hK8  _ _ (by repeat (first | exact trivial | refine ⟨rfl, ?_⟩ | refine ⟨congrArg (fun b => some (Value.bool b)) (by first | exact (decide_eq_true (by grind)).symm | exact (decide_eq_false (by grind)).symm | exact decide_eq_decide.2 (by grind) | exact decide_eq_true (by grind) | exact decide_eq_false (by grind) | (exfalso; grind)), ?_⟩)) (rfl)
              ·
                refine TC.region ?_
                refine TL.move rfl rfl ?_
                refine TL.gtr rfl rfl rfl ?_
                refine TL.assign rfl rfl ?_
                refine TL.done ?_
                exact hK8  _ _ (by repeat (first | exact trivial | refine ⟨rfl, ?_⟩ | refine ⟨congrArg (fun b => some (Value.bool b)) (by first | exact (decide_eq_true (by grind)).symm | exact (decide_eq_false (by grind)).symm | exact decide_eq_decide.2 (by grind) | exact decide_eq_true (by grind) | exact decide_eq_false (by grind) | (exfalso; grind)), ?_⟩)) (rfl)
            ·
              subst hH
              refine TC.condP rfl (fun h10 => ?_) (fun h10 => ?_)
              ·
                have e1 := next_out h0 h4 h7 h10
                refine TC.seq ?_
                refine TC.region ?_
                refine TL.assign rfl rfl ?_
                refine TL.assign rfl rfl ?_
                refine TL.done ?_
                refine Thn.go ?_
                refine TC.ret ?_
                refine Blk.ret ?_
                refine Thn.ret ?_
                refine Ends.ret [10, 11] rfl rfl ?_
                exact ⟨_, by rw [e1]; rfl, by rw [next_none (by omega)]; exact World.ownsRow_nil _ _ _ _, hc17⟩
              ·
                refine TC.seq ?_
                refine TC.region ?_
                refine TL.move rfl rfl ?_
                refine TL.lenSlice Try.underlying22 rfl rfl ?_
                refine TL.eql rfl rfl rfl ?_
                refine TL.assign rfl rfl ?_
                refine TL.done ?_
                refine Thn.go ?_
                refine TC.condP rfl (fun h11 => ?_) (fun h11 => ?_)
                ·
                  have e1 := next_many h0 h4 h7 h10 (show l.length = 4096 by omega)
                  refine TC.seq ?_
                  refine TC.region ?_
                  refine TL.assign rfl rfl ?_
                  refine TL.assign rfl rfl ?_
                  refine TL.done ?_
                  refine Thn.go ?_
                  refine TC.ret ?_
                  refine Blk.ret ?_
                  refine Thn.ret ?_
                  refine Ends.ret [10, 11] rfl rfl ?_
                  exact ⟨_, by rw [e1]; rfl, by rw [next_none (by omega)]; exact World.ownsRow_nil _ _ _ _, hc17⟩
                ·
                  have hn4 : ¬ l.length = 4096 := by omega
                  refine TC.cut0 ([(0, .slice ad l.length c), (1, .int .i64 t), (2, str u), (3, str d), (4, .int .i64 o), (42, .bool (decide (0 ≤ Audit.firstI l ∨ (0 < l.length ∧ t < (Audit.rec l (l.length - 1)).at_))))]) (fun w5 => Ch [] w4 w5) (fun K12 hK12 => ?_) (fun w5 hH => ?_)
                  ·
                    refine TC.seq ?_
                    refine TC.region ?_
                    refine TL.move rfl rfl ?_
                    refine TL.call can25 rfl rfl (fn25 _ l w4 (ha.ch0 hc17) hmay) (fun v44 w44 hr44 => ?_)
                    obtain ⟨rfl, hc44⟩ := hr44
                    refine TL.geq rfl rfl rfl ?_
                    refine TL.assign rfl rfl ?_
                    refine TL.done ?_
                    refine Thn.go ?_
                    refine TC.condP rfl (fun h13 => ?_) (fun h13 => ?_)
                    ·
                      refine TC.skip ?_
                      exact hK12  _ _ (by repeat (first | exact trivial | refine ⟨rfl, ?_⟩ | refine ⟨congrArg (fun b => some (Value.bool b)) (by first | exact (decide_eq_true (by grind)).symm | exact (decide_eq_false (by grind)).symm | exact decide_eq_decide.2 (by grind) | exact decide_eq_true (by grind) | exact decide_eq_false (by grind) | (exfalso; grind)), ?_⟩)) (hc44)
                    ·
                      refine TC.region ?_
                      refine TL.move rfl rfl ?_
                      refine TL.lenSlice Try.underlying22 rfl rfl ?_
                      refine TL.gtr rfl rfl rfl ?_
                      refine TL.em (fun e48 => ?_) (fun e48 => ?_)
                      ·
                        obtain ⟨b1, o1, rfl, hce⟩ := recAt (i := l.length - 1) ((ha.ch0 hc17).ch0 hc44) (by omega)
                        refine TL.move rfl rfl ?_
                        refine TL.guardYes (d := 49) rfl rfl rfl ?_
                        refine TL.move rfl rfl ?_
                        refine TL.guardYes (d := 49) rfl rfl rfl ?_
                        refine TL.move rfl rfl ?_
                        refine TL.guardYes (d := 49) rfl rfl rfl ?_
                        refine TL.move rfl rfl ?_
                        refine TL.guardYes (d := 49) rfl rfl rfl ?_
                        refine TL.lenSlice Try.underlying22 rfl rfl ?_
                        refine TL.guardYes (d := 49) rfl rfl rfl ?_
                        refine TL.sub_i64 rfl rfl (by omega) (by omega) rfl ?_
                        refine TL.guardYes (d := 49) rfl rfl rfl ?_
                        refine TL.indexAddr (l.length - 1) sl22 rfl rfl (by first | rfl | omega) (by omega) rfl ?_
                        refine TL.guardYes (d := 49) rfl rfl rfl ?_
                        refine TL.fieldAddr fd32k1 rfl rfl ?_
                        refine TL.guardYes (d := 49) rfl rfl rfl ?_
                        refine TL.load pl3 rfl ((show _ = some (Value.int .i64 (Audit.rec l (l.length - 1)).at_) from hce 1 (by decide))) rfl ?_
                        refine TL.guardYes (d := 49) rfl rfl rfl ?_
                        refine TL.lss rfl rfl rfl ?_
                        refine TL.pickT rfl rfl rfl rfl ?_
                        refine TL.assign rfl rfl ?_
                        refine TL.done ?_
                        exact hK12  _ _ (by repeat (first | exact trivial | refine ⟨rfl, ?_⟩ | refine ⟨congrArg (fun b => some (Value.bool b)) (by first | exact (decide_eq_true (by grind)).symm | exact (decide_eq_false (by grind)).symm | exact decide_eq_decide.2 (by grind) | exact decide_eq_true (by grind) | exact decide_eq_false (by grind) | (exfalso; grind)), ?_⟩)) (hc44)
                      ·
                        refine TL.move rfl rfl ?_
                        refine TL.guardNo (d := 49) rfl rfl rfl rfl rfl ?_
                        refine TL.guardNo (d := 49) rfl rfl rfl rfl rfl ?_
                        refine TL.guardNo (d := 49) rfl rfl rfl rfl rfl ?_
                        refine TL.guardNo (d := 49) rfl rfl rfl rfl rfl ?_
                        refine TL.guardNo (d := 49) rfl rfl rfl rfl rfl ?_
                        refine TL.guardNo (d := 49) rfl rfl rfl rfl rfl ?_
                        refine TL.guardNo (d := 49) rfl rfl rfl rfl rfl ?_
                        refine TL.guardNo (d := 49) rfl rfl rfl rfl rfl ?_
                        refine TL.guardNo (d := 49) rfl rfl rfl rfl rfl ?_
                        refine TL.pickF rfl rfl rfl rfl ?_
                        refine TL.assign rfl rfl ?_
                        refine TL.done ?_
                        exact hK12  _ _ (by repeat (first | exact trivial | refine ⟨rfl, ?_⟩ | refine ⟨congrArg (fun b => some (Value.bool b)) (by first | exact (decide_eq_true (by grind)).symm | exact (decide_eq_false (by grind)).symm | exact decide_eq_decide.2 (by grind) | exact decide_eq_true (by grind) | exact decide_eq_false (by grind) | (exfalso; grind)), ?_⟩)) (hc44)
                  ·
                    have q5 : Ch [] w w5 := hc17.trans0 hH
                    refine TC.condP rfl (fun h15 => ?_) (fun h15 => ?_)
                    ·
                      have e1 := next_chain h0 h4 h7 h10 hn4 h15
                      refine TC.seq ?_
                      refine TC.region ?_
                      refine TL.assign rfl rfl ?_
                      refine TL.assign rfl rfl ?_
                      refine TL.done ?_
                      refine Thn.go ?_
                      refine TC.ret ?_
                      refine Blk.ret ?_
                      refine Thn.ret ?_
                      refine Ends.ret [10, 11] rfl rfl ?_
                      exact ⟨_, by rw [e1]; rfl, by rw [next_none (by omega)]; exact World.ownsRow_nil _ _ _ _, q5⟩
                    ·
                      obtain ⟨e1, e2⟩ := next_ok h0 h4 h7 h10 hn4 h15
                      rw [e1, e2]
                      obtain ⟨hbl, _⟩ := Audit.before_len hmay (Nat.le_refl l.length)
                      refine TC.skip ?_
                      refine Blk.go ?_
                      refine Thn.go ?_
                      refine TC.seq ?_
                      refine TC.region ?_
                      refine TL.move rfl rfl ?_
                      refine TL.call can19 rfl rfl (fn19 _ l w5 (ha.ch0 q5) hl) (fun v62 w62 hr62 => ?_)
                      obtain ⟨rfl, hc62⟩ := hr62
                      rw [show Audit.headS l = Audit.before l l.length from if_pos h0]
                      obtain ⟨r0, hr0⟩ : ∃ r0 : Audit.Record, r0 = ⟨l.length, t, u, d, o, []⟩ := ⟨_, rfl⟩
                      have hu0 : r0.user.length = u.length := by rw [hr0]
                      have hd0 : r0.deed.length = d.length := by rw [hr0]
                      refine TL.move rfl rfl ?_
                      refine TL.extract rfl rfl rfl ?_
                      refine TL.extract rfl rfl rfl ?_
                      refine TL.assign rfl rfl ?_
                      refine TL.assign rfl rfl ?_
                      refine TL.done ?_
                      refine Thn.go ?_
                      refine TC.seq ?_
                      refine TC.region ?_
                      refine TL.move rfl rfl ?_
                      refine TL.lenSlice Try.underlying22 rfl rfl ?_
                      refine TL.move rfl rfl ?_
                      refine TL.move rfl rfl ?_
                      refine TL.move rfl rfl ?_
                      refine TL.move rfl rfl ?_
                      refine TL.buildRec [0, 1, 2, 3, 4] [.tmp 66, .tmp 67, .tmp 68, .tmp 69, .tmp 70] (cl r0) rfl rfl (by subst hr0; kernel_rfl) rfl ?_
                      refine TL.alloc ze32 rfl (fun w15 hb15 hc15 hz15 => ?_)
                      refine TL.store sz32 rfl rfl rfl hb15 (by simp [Value.cells]) (by simpa [Value.cells] using cl_one r0) (.inl rfl) (fun ws1 hbs1 hcs1 hzs1 => ?_)
                      replace hbs1 : Has ws1 w62.heap.size (cl r0).toArray 32 (0, 0) := hbs1.setAll rfl
                      have q1 : Ch [] w ws1 := ((q5.trans0 hc62).trans0 hc15).then1 hcs1 (by have := q5.size; have := hc62.size; omega)
                      refine TL.done ?_
                      refine Thn.go ?_
                      refine TC.seq ?_
                      refine TC.regionH (fun w9 => Ch [] ws1 w9) mixed0 ?_
                      have hS : (fun w9 => Ch [] ws1 w9) _ := Ch.drew [] ws1
                      refine TH.take (i := 0) rfl rfl rfl rfl rfl (by kernel_rfl) (by kernel_rfl) (by kernel_rfl) hS (fun w2 hw2 => TL.move rfl rfl (TL.done ⟨rfl, rfl⟩)) ?_
                      refine TH.take (i := 2) rfl rfl rfl rfl rfl (by kernel_rfl) (by kernel_rfl) (by kernel_rfl) hS (fun w2 hw2 => TL.loadAgg (cl r0) ag32 rfl rfl (fun j _ => by rw [(hbs1.ch0 hw2).cell, Nat.zero_add, List.getElem?_toArray]) rfl (TL.done ⟨rfl, rfl⟩)) ?_
                      refine TH.take (i := 3) rfl rfl rfl rfl rfl (by kernel_rfl) (by kernel_rfl) (by kernel_rfl) hS (fun w2 hw2 => TL.move rfl rfl (TL.done ⟨rfl, rfl⟩)) ?_
                      refine TH.one (i := 1) (by kernel_rfl) rfl rfl ?_
                      refine TL.call can26 rfl rfl (fn26 _ l (by omega) _ ((ha.ch0 q1).ch0 hS)) (fun v73 w73 hr73 => ?_)
                      obtain ⟨hv73, hc73⟩ := hr73
                      have hS : (fun w9 => Ch [] ws1 w9) _ := hS.trans0 hc73
                      refine TL.done ⟨hS, ?_⟩
                      refine TH.one (i := 4) (by kernel_rfl) rfl rfl ?_
                      refine TL.call can27 rfl rfl (fn27 r0 (Audit.before l l.length) (by omega) (by omega) (by omega) _) (fun v76 w76 hr76 => ?_)
                      obtain ⟨rfl, hc76⟩ := hr76
                      have hS : (fun w9 => Ch [] ws1 w9) _ := hS.trans0 hc76
                      refine TL.done ⟨hS, ?_⟩
                      refine TH.one (i := 5) (by kernel_rfl) rfl rfl ?_
                      refine TL.buildSlice [.tmp 76] sl22 rfl rfl rfl (by decide) (by first | simp [Value.cells]; done | simp [Value.cells, cl_len]; done) rfl (fun w77 hb77 hc77 hz77 => ?_)
                      have hS : (fun w9 => Ch [] ws1 w9) _ := hS.trans0 hc77
                      refine TL.done ⟨hS, ?_⟩
                      refine TH.one (i := 6) (by kernel_rfl) rfl rfl ?_
                      have hv77 := (hv73.ch0 hc76).ch0 hc77
                      have zS := hS.size
                      have hv77' : Own w77 ws1.heap.size 32 6 v73 l.length (l.flatMap cl) := hv77
                      refine TL.append sl22 rfl rfl rfl (hv77') (News.ofRd Try.underlying22 (recOne hb77) (rows_one _)) (by omega) (by omega) (by omega) (fun v78 w78 hv78 hc78 _ => ?_)
                      have hS : (fun w9 => Ch [] ws1 w9) _ := hv77'.thenCh hS hc78
                      refine TL.done ⟨hS, ?_⟩
                      refine TH.take (i := 7) rfl rfl rfl rfl rfl (by kernel_rfl) (by kernel_rfl) (by kernel_rfl) hS (fun w2 hw2 => TL.assign rfl rfl (TL.done ⟨rfl, rfl⟩)) ?_
                      refine TH.take (i := 8) rfl rfl rfl rfl rfl (by kernel_rfl) (by kernel_rfl) (by kernel_rfl) hS (fun w2 hw2 => TL.assign rfl rfl (TL.done ⟨rfl, rfl⟩)) ?_
                      refine TH.done (by kernel_rfl) ?_
                      refine Thn.go ?_
                      refine TC.ret ?_
                      refine Ends.ret [10, 11] rfl rfl ?_
                      refine ⟨_, rfl, ?_, q1.trans0 hS⟩
                      have e : sealedR r0 (Audit.before l l.length) = Audit.newR l t u d o := by rw [hr0]; rfl
                      rw [e] at hv78
                      rw [List.length_append, List.flatMap_append]
                      exact hv78.base q1.size

theorem fn11 (a : Value) (l : List Audit.Record) (t : Int) (u d : List UInt8) (o : Int) (w : World) (ha : Rd w a 6 l.length (l.flatMap cl)) (hl : l.length ≤ 4096 → ∀ r ∈ l, r.hash.length ≤ 100000) : Rets Try.prog 11 #[a, .int .i64 t, str u, str d, .int .i64 o] w (fun v w' => ∃ r, v = .tuple #[r, .int .i64 (Audit.nextE l t u d o : Int)] ∧ Own w' w.heap.size 32 6 r (Audit.nextL l t u d o).length ((Audit.nextL l t u d o).flatMap cl) ∧ Ch [] w w') := by
  obtain ⟨ad, c, rfl, _⟩ := ha.shape
  have hmm : maxLen = 9223372036854775807 := rfl
  refine Rets.of (n := 91) (vs := [_, _, _, _, _]) Try.func11 rfl rfl rfl ?_
  refine TC.seq ?_
  refine TC.region ?_
  refine TL.assign rfl rfl ?_
  refine TL.assign rfl rfl ?_
  refine TL.done ?_
  refine Thn.go ?_
  refine TC.seq ?_
  refine TC.region ?_
  refine TL.move rfl rfl ?_
  refine TL.call can28 rfl rfl (fn28 _ l w ha hl) (fun v17 w17 hr17 => ?_)
  obtain ⟨rfl, hc17⟩ := hr17
  refine TL.assign rfl rfl ?_
  refine TL.done ?_
  refine Thn.go ?_
  refine TC.seq ?_
  refine TC.seq ?_
  refine TC.region ?_
  refine TL.move rfl rfl ?_
  refine TL.neq rfl rfl rfl ?_
  refine TL.done ?_
  refine Thn.go ?_
  refine TC.condP rfl (fun h1 => ?_) (fun h1 => ?_)
  ·
    have e1 := next_asked (t := t) (o := o) (u := u) (d := d) (show Audit.askedE l ≠ 0 by omega)
    refine TC.seq ?_
    refine TC.region ?_
    refine TL.move rfl rfl ?_
    refine TL.assign rfl rfl ?_
    refine TL.assign rfl rfl ?_
    refine TL.done ?_
    refine Thn.go ?_
    refine TC.ret ?_
    refine Thn.ret ?_
    refine Ends.ret [10, 11] rfl rfl ?_
    exact ⟨_, by rw [e1]; rfl, by rw [next_none (by omega)]; exact World.ownsRow_nil _ _ _ _, hc17⟩
  ·
    have h0 : Audit.askedE l = 0 := by omega
    obtain ⟨hlen, hmay⟩ := Audit.asked_zero h0
    refine TC.skip ?_
    refine Thn.go ?_
    refine TC.seq ?_
    refine TC.regionBool (d := 26) (p := (t < 0 ∨ 1099511627776 < t)) (fun K2 hK2 => ?_) ?_
    ·
      refine TL.move rfl rfl ?_
      refine TL.lss rfl rfl rfl ?_
      refine TL.em (fun e22 => ?_) (fun e22 => ?_)
      ·
        refine TL.move rfl rfl ?_
        refine TL.guardNo (d := 23) rfl rfl rfl rfl rfl ?_
        refine TL.guardNo (d := 23) rfl rfl rfl rfl rfl ?_
        refine TL.pickT rfl rfl rfl rfl ?_
        refine TL.done ?_
        refine hK2 _ ?_
        refine Le.here rfl (by first | exact decide_eq_true (by omega) | exact decide_eq_false (by omega) | exact decide_eq_decide.2 (by omega) | exact decide_eq_true (by grind) | exact decide_eq_false (by grind) | exact decide_eq_decide.2 (by grind)) ?_
        repeat (first | exact Le.refl _ | refine Le.skip rfl ?_)
      ·
        refine TL.move rfl rfl ?_
        refine TL.guardYes (d := 23) rfl rfl rfl ?_
        refine TL.move rfl rfl ?_
        refine TL.guardYes (d := 23) rfl rfl rfl ?_
        refine TL.gtr rfl rfl rfl ?_
        refine TL.pickF rfl rfl rfl rfl ?_
        refine TL.done ?_
        refine hK2 _ ?_
        refine Le.here rfl (by first | exact decide_eq_true (by omega) | exact decide_eq_false (by omega) | exact decide_eq_decide.2 (by omega) | exact decide_eq_true (by grind) | exact decide_eq_false (by grind) | exact decide_eq_decide.2 (by grind)) ?_
        repeat (first | exact Le.refl _ | refine Le.skip rfl ?_)
    refine TC.condP rfl (fun h4 => ?_) (fun h4 => ?_)
    ·
      have e1 := next_time (o := o) (u := u) (d := d) h0 h4
      refine TC.seq ?_
      refine TC.region ?_
      refine TL.assign rfl rfl ?_
      refine TL.assign rfl rfl ?_
      refine TL.done ?_
      refine Thn.go ?_
      refine TC.ret ?_
      refine Thn.ret ?_
      refine Ends.ret [10, 11] rfl rfl ?_
      exact ⟨_, by rw [e1]; rfl, by rw [next_none (by omega)]; exact World.ownsRow_nil _ _ _ _, hc17⟩
    ·
      refine TC.skip ?_
      refine Thn.go ?_
      refine TC.seq ?_
      refine TC.regionBool (d := 34) (p := (32 < u.length ∨ 16384 < d.length)) (fun K5 hK5 => ?_) ?_
      ·
        refine TL.move rfl rfl ?_
        refine TL.lenStr Try.underlying9 rfl rfl ?_
        refine TL.gtr rfl rfl rfl ?_
        refine TL.em (fun e29 => ?_) (fun e29 => ?_)
        ·
          refine TL.move rfl rfl ?_
          refine TL.guardNo (d := 30) rfl rfl rfl rfl rfl ?_
          refine TL.guardNo (d := 30) rfl rfl rfl rfl rfl ?_
          refine TL.guardNo (d := 30) rfl rfl rfl rfl rfl ?_
          refine TL.pickT rfl rfl rfl rfl ?_
          refine TL.done ?_
          refine hK5 _ ?_
          refine Le.here rfl (by first | exact decide_eq_true (by omega) | exact decide_eq_false (by omega) | exact decide_eq_decide.2 (by omega) | exact decide_eq_true (by grind) | exact decide_eq_false (by grind) | exact decide_eq_decide.2 (by grind)) ?_
          repeat (first | exact Le.refl _ | refine Le.skip rfl ?_)
        ·
          refine TL.move rfl rfl ?_
          refine TL.guardYes (d := 30) rfl rfl rfl ?_
          refine TL.move rfl rfl ?_
          refine TL.guardYes (d := 30) rfl rfl rfl ?_
          refine TL.lenStr Try.underlying9 rfl rfl ?_
          refine TL.guardYes (d := 30) rfl rfl rfl ?_
          refine TL.gtr rfl rfl rfl ?_
          refine TL.pickF rfl rfl rfl rfl ?_
          refine TL.done ?_
          refine hK5 _ ?_
          refine Le.here rfl (by first | exact decide_eq_true (by omega) | exact decide_eq_false (by omega) | exact decide_eq_decide.2 (by omega) | exact decide_eq_true (by grind) | exact decide_eq_false (by grind) | exact decide_eq_decide.2 (by grind)) ?_
          repeat (first | exact Le.refl _ | refine Le.skip rfl ?_)
      refine TC.condP rfl (fun h7 => ?_) (fun h7 => ?_)
      ·
        have e1 := next_text (o := o) h0 h4 h7
        refine TC.seq ?_
        refine TC.region ?_
        refine TL.assign rfl rfl ?_
        refine TL.assign rfl rfl ?_
        refine TL.done ?_
        refine Thn.go ?_
        refine TC.ret ?_
        refine Thn.ret ?_
        refine Ends.ret [10, 11] rfl rfl ?_
        exact ⟨_, by rw [e1]; rfl, by rw [next_none (by omega)]; exact World.ownsRow_nil _ _ _ _, hc17⟩
      ·
        refine TC.skip ?_
        refine Thn.go ?_
        refine TC.seq ?_
        refine TC.regionBool (d := 40) (p := (o < 100 ∨ 599 < o)) (fun K8 hK8 => ?_) ?_
        ·
          refine TL.move rfl rfl ?_
          refine TL.lss rfl rfl rfl ?_
          refine TL.em (fun e36 => ?_) (fun e36 => ?_)
          ·
            refine TL.move rfl rfl ?_
            refine TL.guardNo (d := 37) rfl rfl rfl rfl rfl ?_
            refine TL.guardNo (d := 37) rfl rfl rfl rfl rfl ?_
            refine TL.pickT rfl rfl rfl rfl ?_
            refine TL.done ?_
            refine hK8 _ ?_
            refine Le.here rfl (by first | exact decide_eq_true (by omega) | exact decide_eq_false (by omega) | exact decide_eq_decide.2 (by omega) | exact decide_eq_true (by grind) | exact decide_eq_false (by grind) | exact decide_eq_decide.2 (by grind)) ?_
            repeat (first | exact Le.refl _ | refine Le.skip rfl ?_)
          ·
            refine TL.move rfl rfl ?_
            refine TL.guardYes (d := 37) rfl rfl rfl ?_
            refine TL.move rfl rfl ?_
            refine TL.guardYes (d := 37) rfl rfl rfl ?_
            refine TL.gtr rfl rfl rfl ?_
            refine TL.pickF rfl rfl rfl rfl ?_
            refine TL.done ?_
            refine hK8 _ ?_
            refine Le.here rfl (by first | exact decide_eq_true (by omega) | exact decide_eq_false (by omega) | exact decide_eq_decide.2 (by omega) | exact decide_eq_true (by grind) | exact decide_eq_false (by grind) | exact decide_eq_decide.2 (by grind)) ?_
            repeat (first | exact Le.refl _ | refine Le.skip rfl ?_)
        refine TC.condP rfl (fun h10 => ?_) (fun h10 => ?_)
        ·
          have e1 := next_out h0 h4 h7 h10
          refine TC.seq ?_
          refine TC.region ?_
          refine TL.assign rfl rfl ?_
          refine TL.assign rfl rfl ?_
          refine TL.done ?_
          refine Thn.go ?_
          refine TC.ret ?_
          refine Thn.ret ?_
          refine Ends.ret [10, 11] rfl rfl ?_
          exact ⟨_, by rw [e1]; rfl, by rw [next_none (by omega)]; exact World.ownsRow_nil _ _ _ _, hc17⟩
        ·
          refine TC.skip ?_
          refine Thn.go ?_
          refine TC.seq ?_
          refine TC.seq ?_
          refine TC.region ?_
          refine TL.move rfl rfl ?_
          refine TL.lenSlice Try.underlying22 rfl rfl ?_
          refine TL.eql rfl rfl rfl ?_
          refine TL.done ?_
          refine Thn.go ?_
          refine TC.condP rfl (fun h11 => ?_) (fun h11 => ?_)
          ·
            have e1 := next_many h0 h4 h7 h10 (show l.length = 4096 by omega)
            refine TC.seq ?_
            refine TC.region ?_
            refine TL.assign rfl rfl ?_
            refine TL.assign rfl rfl ?_
            refine TL.done ?_
            refine Thn.go ?_
            refine TC.ret ?_
            refine Thn.ret ?_
            refine Ends.ret [10, 11] rfl rfl ?_
            exact ⟨_, by rw [e1]; rfl, by rw [next_none (by omega)]; exact World.ownsRow_nil _ _ _ _, hc17⟩
          ·
            have hn4 : ¬ l.length = 4096 := by omega
            refine TC.skip ?_
            refine Thn.go ?_
            refine TC.seq ?_
            refine TC.cut0 ([(0, .slice ad l.length c), (1, .int .i64 t), (2, str u), (3, str d), (4, .int .i64 o), (62, .bool (decide (0 ≤ Audit.firstI l ∨ (0 < l.length ∧ t < (Audit.rec l (l.length - 1)).at_))))]) (fun w5 => Ch [] w17 w5) (fun K12 hK12 => ?_) (fun w5 hH => ?_)
            ·
              refine TC.region ?_
              refine TL.move rfl rfl ?_
              refine TL.call can29 rfl rfl (fn29 _ l _ (ha.ch0 hc17) hmay) (fun v45 w45 hr45 => ?_)
              obtain ⟨rfl, hc44⟩ := hr45
              refine TL.geq rfl rfl rfl ?_
              refine TL.em (fun e46 => ?_) (fun e46 => ?_)
              ·
                refine TL.move rfl rfl ?_
                refine TL.guardNo (d := 47) rfl rfl rfl rfl rfl ?_
                refine TL.guardNo (d := 47) rfl rfl rfl rfl rfl ?_
                refine TL.guardNo (d := 47) rfl rfl rfl rfl rfl ?_
                refine TL.guardNo (d := 47) rfl rfl rfl rfl rfl ?_
                refine TL.guardUndef (d := 51) rfl rfl rfl rfl ?_
                refine TL.guardUndef (d := 51) rfl rfl rfl rfl ?_
                refine TL.guardUndef (d := 51) rfl rfl rfl rfl ?_
                refine TL.guardUndef (d := 51) rfl rfl rfl rfl ?_
                refine TL.guardUndef (d := 51) rfl rfl rfl rfl ?_
                refine TL.guardUndef (d := 51) rfl rfl rfl rfl ?_
                refine TL.guardUndef (d := 51) rfl rfl rfl rfl ?_
                refine TL.guardUndef (d := 51) rfl rfl rfl rfl ?_
                refine TL.guardUndef (d := 51) rfl rfl rfl rfl ?_
                refine TL.guardNo (d := 47) rfl rfl rfl rfl rfl ?_
                refine TL.pickT rfl rfl rfl rfl ?_
                refine TL.done ?_
                exact hK12  _ _ (by repeat (first | exact trivial | refine ⟨rfl, ?_⟩ | refine ⟨congrArg (fun b => some (Value.bool b)) (by first | exact (decide_eq_true (by grind)).symm | exact (decide_eq_false (by grind)).symm | exact decide_eq_decide.2 (by grind) | exact decide_eq_true (by grind) | exact decide_eq_false (by grind) | (exfalso; grind)), ?_⟩)) (hc44)
              ·
                refine TL.move rfl rfl ?_
                refine TL.guardYes (d := 47) rfl rfl rfl ?_
                refine TL.move rfl rfl ?_
                refine TL.guardYes (d := 47) rfl rfl rfl ?_
                refine TL.lenSlice Try.underlying22 rfl rfl ?_
                refine TL.guardYes (d := 47) rfl rfl rfl ?_
                refine TL.gtr rfl rfl rfl ?_
                refine TL.em (fun e50 => ?_) (fun e50 => ?_)
                ·
                  obtain ⟨b1, o1, rfl, hce⟩ := recAt (i := l.length - 1) ((ha.ch0 hc17).ch0 hc44) (by omega)
                  refine TL.guardYes (d := 47) rfl rfl rfl ?_
                  refine TL.move rfl rfl ?_
                  refine TL.guardYes (d := 51) rfl rfl rfl ?_
                  refine TL.move rfl rfl ?_
                  refine TL.guardYes (d := 51) rfl rfl rfl ?_
                  refine TL.move rfl rfl ?_
                  refine TL.guardYes (d := 51) rfl rfl rfl ?_
                  refine TL.move rfl rfl ?_
                  refine TL.guardYes (d := 51) rfl rfl rfl ?_
                  refine TL.lenSlice Try.underlying22 rfl rfl ?_
                  refine TL.guardYes (d := 51) rfl rfl rfl ?_
                  refine TL.sub_i64 rfl rfl (by omega) (by omega) rfl ?_
                  refine TL.guardYes (d := 51) rfl rfl rfl ?_
                  refine TL.indexAddr (l.length - 1) sl22 rfl rfl (by first | rfl | omega) (by omega) rfl ?_
                  refine TL.guardYes (d := 51) rfl rfl rfl ?_
                  refine TL.fieldAddr fd32k1 rfl rfl ?_
                  refine TL.guardYes (d := 51) rfl rfl rfl ?_
                  refine TL.load pl3 rfl ((show _ = some (Value.int .i64 (Audit.rec l (l.length - 1)).at_) from hce 1 (by decide))) rfl ?_
                  refine TL.guardYes (d := 51) rfl rfl rfl ?_
                  refine TL.lss rfl rfl rfl ?_
                  refine TL.guardYes (d := 47) rfl rfl rfl ?_
                  refine TL.pickT rfl rfl rfl rfl ?_
                  refine TL.pickF rfl rfl rfl rfl ?_
                  refine TL.done ?_
                  exact hK12  _ _ (by repeat (first | exact trivial | refine ⟨rfl, ?_⟩ | refine ⟨congrArg (fun b => some (Value.bool b)) (by first | exact (decide_eq_true (by grind)).symm | exact (decide_eq_false (by grind)).symm | exact decide_eq_decide.2 (by grind) | exact decide_eq_true (by grind) | exact decide_eq_false (by grind) | (exfalso; grind)), ?_⟩)) (hc44)
                ·
                  refine TL.guardYes (d := 47) rfl rfl rfl ?_
                  refine TL.move rfl rfl ?_
                  refine TL.guardNo (d := 51) rfl rfl rfl rfl rfl ?_
                  refine TL.guardNo (d := 51) rfl rfl rfl rfl rfl ?_
                  refine TL.guardNo (d := 51) rfl rfl rfl rfl rfl ?_
                  refine TL.guardNo (d := 51) rfl rfl rfl rfl rfl ?_
                  refine TL.guardNo (d := 51) rfl rfl rfl rfl rfl ?_
                  refine TL.guardNo (d := 51) rfl rfl rfl rfl rfl ?_
                  refine TL.guardNo (d := 51) rfl rfl rfl rfl rfl ?_
                  refine TL.guardNo (d := 51) rfl rfl rfl rfl rfl ?_
                  refine TL.guardNo (d := 51) rfl rfl rfl rfl rfl ?_
                  refine TL.guardYes (d := 47) rfl rfl rfl ?_
                  refine TL.pickF rfl rfl rfl rfl ?_
                  refine TL.pickF rfl rfl rfl rfl ?_
                  refine TL.done ?_
                  exact hK12  _ _ (by repeat (first | exact trivial | refine ⟨rfl, ?_⟩ | refine ⟨congrArg (fun b => some (Value.bool b)) (by first | exact (decide_eq_true (by grind)).symm | exact (decide_eq_false (by grind)).symm | exact decide_eq_decide.2 (by grind) | exact decide_eq_true (by grind) | exact decide_eq_false (by grind) | (exfalso; grind)), ?_⟩)) (hc44)
            ·
              have q5 : Ch [] w w5 := hc17.trans0 hH
              refine TC.condP rfl (fun h15 => ?_) (fun h15 => ?_)
              ·
                have e1 := next_chain h0 h4 h7 h10 hn4 h15
                refine TC.seq ?_
                refine TC.region ?_
                refine TL.assign rfl rfl ?_
                refine TL.assign rfl rfl ?_
                refine TL.done ?_
                refine Thn.go ?_
                refine TC.ret ?_
                refine Thn.ret ?_
                refine Ends.ret [10, 11] rfl rfl ?_
                exact ⟨_, by rw [e1]; rfl, by rw [next_none (by omega)]; exact World.ownsRow_nil _ _ _ _, q5⟩
              ·
                obtain ⟨e1, e2⟩ := next_ok h0 h4 h7 h10 hn4 h15
                rw [e1, e2]
                obtain ⟨hbl, _⟩ := Audit.before_len hmay (Nat.le_refl l.length)
                refine TC.skip ?_
                refine Thn.go ?_
                refine TC.seq ?_
                refine TC.region ?_
                refine TL.assign rfl rfl ?_
                refine TL.done ?_
                refine Thn.go ?_
                refine TC.cut0 ([(0, .slice ad l.length c), (1, .int .i64 t), (2, str u), (3, str d), (4, .int .i64 o), (13, str (Audit.before l l.length))]) (fun w6 => w6 = w5) (fun K16 hK16 => ?_) (fun w6 hH => ?_)
                ·
                  refine TC.seq ?_
                  refine TC.region ?_
                  refine TL.move rfl rfl ?_
                  refine TL.lenSlice Try.underlying22 rfl rfl ?_
                  refine TL.gtr rfl rfl rfl ?_
                  refine TL.done ?_
                  refine Thn.go ?_
                  refine TC.condP rfl (fun h17 => ?_) (fun h17 => ?_)
                  ·
                    obtain ⟨b1, o1, rfl, hce⟩ := recAt (i := l.length - 1) (ha.ch0 q5) (by omega)
                    have hbf : Audit.before l l.length = (Audit.rec l (l.length - 1)).hash := if_neg (by omega)
                    refine TC.region ?_
                    refine TL.move rfl rfl ?_
                    refine TL.move rfl rfl ?_
                    refine TL.lenSlice Try.underlying22 rfl rfl ?_
                    refine TL.sub_i64 rfl rfl (by omega) (by omega) rfl ?_
                    refine TL.indexAddr (l.length - 1) sl22 rfl rfl (by first | rfl | omega) (by omega) rfl ?_
                    refine TL.fieldAddr fd32k5 rfl rfl ?_
                    refine TL.load pl9 rfl ((show _ = some (str (Audit.before l l.length)) from hbf ▸ hce 5 (by decide))) rfl ?_
                    refine TL.assign rfl rfl ?_
                    refine TL.done ?_
                    exact hK16  _ _ (by repeat (first | exact trivial | refine ⟨rfl, ?_⟩ | refine ⟨congrArg (fun b => some (Value.bool b)) (by first | exact (decide_eq_true (by grind)).symm | exact (decide_eq_false (by grind)).symm | exact decide_eq_decide.2 (by grind) | exact decide_eq_true (by grind) | exact decide_eq_false (by grind) | (exfalso; grind)), ?_⟩)) (rfl)
                  ·
                    have hl0 : l = [] := List.eq_nil_of_length_eq_zero (by omega)
                    subst hl0
                    refine TC.skip ?_
                    exact hK16  _ _ (by repeat (first | exact trivial | refine ⟨rfl, ?_⟩ | refine ⟨congrArg (fun b => some (Value.bool b)) (by first | exact (decide_eq_true (by grind)).symm | exact (decide_eq_false (by grind)).symm | exact decide_eq_decide.2 (by grind) | exact decide_eq_true (by grind) | exact decide_eq_false (by grind) | (exfalso; grind)), ?_⟩)) (rfl)
                ·
                  subst hH
                  obtain ⟨r0, hr0⟩ : ∃ r0 : Audit.Record, r0 = ⟨l.length, t, u, d, o, []⟩ := ⟨_, rfl⟩
                  have hu0 : r0.user.length = u.length := by rw [hr0]
                  have hd0 : r0.deed.length = d.length := by rw [hr0]
                  refine TC.seq ?_
                  refine TC.region ?_
                  refine TL.move rfl rfl ?_
                  refine TL.lenSlice Try.underlying22 rfl rfl ?_
                  refine TL.move rfl rfl ?_
                  refine TL.move rfl rfl ?_
                  refine TL.move rfl rfl ?_
                  refine TL.move rfl rfl ?_
                  refine TL.buildRec [0, 1, 2, 3, 4] [.tmp 74, .tmp 75, .tmp 76, .tmp 77, .tmp 78] (cl r0) rfl rfl (by subst hr0; kernel_rfl) rfl ?_
                  refine TL.alloc ze32 rfl (fun w14 hb14 hc14 hz14 => ?_)
                  refine TL.store sz32 rfl rfl rfl hb14 (by simp [Value.cells]) (by simpa [Value.cells] using cl_one r0) (.inl rfl) (fun ws1 hbs1 hcs1 hzs1 => ?_)
                  replace hbs1 : Has ws1 _ (cl r0).toArray 32 (0, 0) := hbs1.setAll rfl
                  have q1 : Ch [] w ws1 := (q5.trans0 hc14).then1 hcs1 q5.size
                  refine TL.done ?_
                  refine Thn.go ?_
                  refine TC.seq ?_
                  refine TC.region ?_
                  refine TL.loadAgg (cl r0) ag32 rfl rfl (fun j _ => by rw [hbs1.cell, Nat.zero_add, List.getElem?_toArray]) rfl ?_
                  refine TL.move rfl rfl ?_
                  refine TL.call can30 rfl rfl (fn30 r0 (Audit.before l l.length) (by omega) (by omega) (by omega) ws1) (fun v82 w82 hr82 => ?_)
                  obtain ⟨rfl, hc82⟩ := hr82
                  have hbs1' := hbs1.ch0 hc82
                  refine TL.fieldAddr fd32k5 rfl rfl ?_
                  refine TL.store sz9 rfl rfl rfl hbs1' (by simp [cl]) (by simp [Value.cells, Value.oneCell']) (.inl rfl) (fun ws2 hbs2 hcs2 hzs2 => ?_)
                  replace hbs2 : Has ws2 _ (cl (sealedR r0 (Audit.before l l.length))).toArray 32 (0, 0) := hbs2.setOne rfl (by simp [cl])
                  have q2 : Ch [] w ws2 := (q1.trans0 hc82).then1 hcs2 q5.size
                  refine TL.done ?_
                  refine Thn.go ?_
                  refine TC.seq ?_
                  refine TC.region ?_
                  refine TL.assign rfl rfl ?_
                  refine TL.done ?_
                  refine Thn.go ?_
                  refine TC.seq ?_
                  refine TC.region ?_
                  refine TL.move rfl rfl ?_
                  refine TL.move rfl rfl ?_
                  refine TL.append sl22 rfl rfl rfl (World.ownsRow_nil _ ws2.heap.size _ _) (News.ofRd Try.underlying22 (ha.ch0 q2) (rows_one _)) (by omega) (by omega) (by omega) (fun v86 w86 hv86 hc86 _ => ?_)
                  have q86 : Ch [] ws2 w86 := Own.thenCh (World.ownsRow_nil ws2 ws2.heap.size 32 6) (Ch.refl _ _) hc86
                  have z86 := q86.size
                  refine TL.assign rfl rfl ?_
                  refine TL.done ?_
                  refine Thn.go ?_
                  refine TC.seq ?_
                  refine TC.region ?_
                  refine TL.move rfl rfl ?_
                  refine TL.loadAgg (cl (sealedR r0 (Audit.before l l.length))) ag32 rfl rfl (fun j _ => by rw [(hbs2.ch0 q86).cell, Nat.zero_add, List.getElem?_toArray]) rfl ?_
                  refine TL.buildSlice [.tmp 88] sl22 rfl rfl rfl (by decide) (by first | simp [Value.cells]; done | simp [Value.cells, cl_len]; done) rfl (fun w89 hb89 hc89 hz89 => ?_)
                  refine TL.append sl22 rfl rfl rfl (hv86.ch0 hc89) (News.ofRd Try.underlying22 (recOne hb89) (rows_one _)) (by omega) (by omega) (by omega) (fun v90 w90 hv90 hc90 _ => ?_)
                  refine TL.assign rfl rfl ?_
                  refine TL.assign rfl rfl ?_
                  refine TL.done ?_
                  refine Thn.go ?_
                  refine TC.ret ?_
                  refine Ends.ret [10, 11] rfl rfl ?_
                  refine ⟨_, rfl, ?_, q2.trans0 ((hv86.ch0 hc89).thenCh (q86.trans0 hc89) hc90)⟩
                  have e : sealedR r0 (Audit.before l l.length) = Audit.newR l t u d o := by rw [hr0]; rfl
                  rw [e] at hv90
                  rw [List.length_append, List.flatMap_append]
                  rw [List.nil_append, Nat.zero_add] at hv90
                  exact hv90.base q2.size

