/-
  Walks through the given program: each theorem fnN says what the call of function N of the translation hands back, for all arguments that its premises describe, and that nothing that was there has turned.
-/
import Derived.Test.YtilnoklpikblgaaE6
namespace Go.Proofs.Ytilnoklpikblgaa
open Go.Lane
theorem can34 : Callable Try.prog 34 := ⟨Try.f34, Try.func34, by kernel_rfl, rfl⟩
theorem can35 : Callable Try.prog 35 := ⟨Try.f35, Try.func35, by kernel_rfl, rfl⟩

theorem fn35 (av bv : Value) (A B : List En.Entry) (hA : En.Weak A) (hB : En.Weak B) (hl : A.length + B.length ≤ 2000000) (w : World) (ha : Rd w av 4 A.length (A.flatMap cl)) (hb : Rd w bv 4 B.length (B.flatMap cl)) : Rets Try.prog 35 #[av, bv] w (fun v w' => ∃ out : List En.Entry, out.Perm (A ++ B) ∧ En.Weak out ∧ Own w' w.heap.size 32 4 v out.length (out.flatMap cl) ∧ Ch [] w w') := by
  have hmm : maxLen = 9223372036854775807 := rfl
  refine Rets.of (n := 48) (vs := [_, _]) Try.func35 rfl rfl rfl ?_
  refine TC.seq ?_
  refine TC.region ?_
  refine TL.assign rfl rfl ?_
  refine TL.done ?_
  refine Thn.go ?_
  refine TC.seq ?_
  refine TC.region ?_
  refine TL.assign rfl rfl ?_
  refine TL.done ?_
  refine Thn.go ?_
  refine TC.seq ?_
  refine TC.block ?_
  refine TC.loop4 (fun (n : Nat) (a : Value) (b : Value) (ov : Value) => [(0, a), (1, b), (5, ov)]) (fun n a b ov w' => (∃ la lb out : List En.Entry, En.Two A B out la lb ∧ Rd w a 4 la.length (la.flatMap cl) ∧ Rd w b 4 lb.length (lb.flatMap cl) ∧ Own w' w.heap.size 32 4 ov out.length (out.flatMap cl) ∧ la.length + lb.length = n) ∧ Ch [] w w') (fun n _ _ _ => n) (A.length + B.length) av bv (.slice none 0 0) (by repeat (first | exact trivial | refine ⟨rfl, ?_⟩)) (⟨⟨A, B, [], En.Two.start hA hB, ha, hb, World.ownsRow_nil _ _ _ _, rfl⟩, Ch.refl _ _⟩) (fun n a b ov w' hH => ?_)
  obtain ⟨⟨la, lb, out, ht, hra, hrb, hown, hn⟩, hch⟩ := hH
  obtain ⟨ada, ca, rfl, _⟩ := hra.shape
  obtain ⟨adb, cb, rfl, _⟩ := hrb.shape
  have hpl := ht.perm.length_eq
  simp only [List.length_append] at hpl
  have hma := hra.nlt; have hmb := hrb.nlt
  refine TC.seq ?_
  refine TC.regionBool (d := 13) (p := (0 < la.length ∨ 0 < lb.length)) (fun K1 hK1 => ?_) ?_
  ·
    refine TL.move rfl rfl ?_
    refine TL.lenSlice Try.underlying25 rfl rfl ?_
    refine TL.gtr rfl rfl rfl ?_
    refine TL.em (fun e8 => ?_) (fun e8 => ?_)
    ·
      refine TL.move rfl rfl ?_
      refine TL.guardNo (d := 9) rfl rfl rfl rfl rfl ?_
      refine TL.guardNo (d := 9) rfl rfl rfl rfl rfl ?_
      refine TL.guardNo (d := 9) rfl rfl rfl rfl rfl ?_
      refine TL.pickT rfl rfl rfl rfl ?_
      refine TL.done ?_
      refine hK1 _ ?_
      refine Le.here rfl (by first | exact decide_eq_true (by omega) | exact decide_eq_false (by omega) | exact decide_eq_decide.2 (by omega) | exact decide_eq_true (by grind) | exact decide_eq_false (by grind) | exact decide_eq_decide.2 (by grind)) ?_
      repeat (first | exact Le.refl _ | refine Le.skip rfl ?_)
    ·
      refine TL.move rfl rfl ?_
      refine TL.guardYes (d := 9) rfl rfl rfl ?_
      refine TL.move rfl rfl ?_
      refine TL.guardYes (d := 9) rfl rfl rfl ?_
      refine TL.lenSlice Try.underlying25 rfl rfl ?_
      refine TL.guardYes (d := 9) rfl rfl rfl ?_
      refine TL.gtr rfl rfl rfl ?_
      refine TL.pickF rfl rfl rfl rfl ?_
      refine TL.done ?_
      refine hK1 _ ?_
      refine Le.here rfl (by first | exact decide_eq_true (by omega) | exact decide_eq_false (by omega) | exact decide_eq_decide.2 (by omega) | exact decide_eq_true (by grind) | exact decide_eq_false (by grind) | exact decide_eq_decide.2 (by grind)) ?_
      repeat (first | exact Le.refl _ | refine Le.skip rfl ?_)
  refine TC.condP rfl (fun h3 => ?_) (fun h3 => ?_)
  ·
    refine TC.skip ?_
    refine Thn.go ?_
    refine TC.block ?_
    refine TC.cut0 ([(0, .slice ada la.length ca), (1, .slice adb lb.length cb), (5, ov), (30, .bool (decide (En.ahead2 la lb)))]) (fun w4 => Ch [] w' w4) (fun K4 hK4 => ?_) (fun w4 hH3 => ?_)
    ·
      refine TC.regionQ (fun w6 => Ch [] w' w6) mixed0 (by kernel_rfl) (Ch.drew [] _) ?_
      refine TQ.via rfl rfl rfl rfl (fun w2 hw2 => TL.move rfl rfl (TL.done ⟨rfl, rfl⟩)) ?_
      refine TQ.via rfl rfl rfl rfl (fun w2 hw2 => TL.lenSlice Try.underlying25 rfl rfl (TL.done ⟨rfl, rfl⟩)) ?_
      refine TQ.via rfl rfl rfl rfl (fun w2 hw2 => TL.eql rfl rfl rfl (TL.done ⟨rfl, rfl⟩)) ?_
      refine TQ.em (fun e16 => ?_) (fun e16 => ?_)
      ·
        have hb0 : lb = [] := List.eq_nil_of_length_eq_zero (by omega)
        have ha2 : En.ahead2 la lb := .inl hb0
        refine TQ.via rfl rfl rfl rfl (fun w2 hw2 => TL.move rfl rfl (TL.done ⟨rfl, rfl⟩)) ?_
        refine TQ.guardNo (d := 17) rfl rfl rfl rfl rfl ?_
        refine TQ.guardNo (d := 17) rfl rfl rfl rfl rfl ?_
        refine TQ.guardNo (d := 17) rfl rfl rfl rfl rfl ?_
        refine TQ.guardNo (d := 17) rfl rfl rfl rfl rfl ?_
        refine TQ.guardUndef (d := 21) rfl rfl rfl rfl ?_
        refine TQ.guardUndef (d := 21) rfl rfl rfl rfl ?_
        refine TQ.guardUndef (d := 21) rfl rfl rfl rfl ?_
        refine TQ.guardUndef (d := 21) rfl rfl rfl rfl ?_
        refine TQ.guardUndef (d := 21) rfl rfl rfl rfl ?_
        refine TQ.guardUndef (d := 21) rfl rfl rfl rfl ?_
        refine TQ.guardUndef (d := 21) rfl rfl rfl rfl ?_
        refine TQ.guardNo (d := 17) rfl rfl rfl rfl rfl ?_
        refine TQ.via rfl rfl rfl rfl (fun w2 hw2 => TL.pickT rfl rfl rfl rfl (TL.done ⟨rfl, rfl⟩)) ?_
        refine TQ.done (fun w2 hw2 => ?_)
        exact hK4  _ _ (by repeat (first | exact trivial | refine ⟨rfl, ?_⟩ | refine ⟨congrArg (fun b => some (Value.bool b)) (by first | exact (decide_eq_true (by grind)).symm | exact (decide_eq_false (by grind)).symm | exact decide_eq_decide.2 (by grind) | exact decide_eq_true (by grind) | exact decide_eq_false (by grind) | (exfalso; grind)), ?_⟩)) (hw2)
      ·
        have hb0 : lb ≠ [] := fun e => e16 (by rw [e]; rfl)
        refine TQ.via rfl rfl rfl rfl (fun w2 hw2 => TL.move rfl rfl (TL.done ⟨rfl, rfl⟩)) ?_
        refine TQ.guardYes (d := 17) rfl rfl rfl ?_
        refine TQ.via rfl rfl rfl rfl (fun w2 hw2 => TL.move rfl rfl (TL.done ⟨rfl, rfl⟩)) ?_
        refine TQ.guardYes (d := 17) rfl rfl rfl ?_
        refine TQ.via rfl rfl rfl rfl (fun w2 hw2 => TL.lenSlice Try.underlying25 rfl rfl (TL.done ⟨rfl, rfl⟩)) ?_
        refine TQ.guardYes (d := 17) rfl rfl rfl ?_
        refine TQ.via rfl rfl rfl rfl (fun w2 hw2 => TL.gtr rfl rfl rfl (TL.done ⟨rfl, rfl⟩)) ?_
        refine TQ.em (fun e20 => ?_) (fun e20 => ?_)
        ·
          have ha0 : la ≠ [] := fun e => by rw [e] at e20; exact absurd e20 (by decide)
          have hpa : 0 < la.length := by omega
          have hpb : 0 < lb.length := by omega
          obtain ⟨b1, o1, rfl, hea⟩ := recAll (hra.ch0 hch) hpa
          obtain ⟨b2, o2, rfl, heb⟩ := recAll (hrb.ch0 hch) hpb
          have ha2 : En.ahead2 la lb ↔ En.less (En.rec la 0) (En.rec lb 0) := ⟨fun h => (h.resolve_left hb0).2, fun h => .inr ⟨ha0, h⟩⟩
          refine TQ.guardYes (d := 17) rfl rfl rfl ?_
          refine TQ.via rfl rfl rfl rfl (fun w2 hw2 => TL.move rfl rfl (TL.done ⟨rfl, rfl⟩)) ?_
          refine TQ.guardYes (d := 21) rfl rfl rfl ?_
          refine TQ.via rfl rfl rfl rfl (fun w2 hw2 => TL.move rfl rfl (TL.done ⟨rfl, rfl⟩)) ?_
          refine TQ.guardYes (d := 21) rfl rfl rfl ?_
          refine TQ.via rfl rfl rfl rfl (fun w2 hw2 => TL.indexAddr (0) sl25 rfl rfl rfl hpa rfl (TL.done ⟨rfl, rfl⟩)) ?_
          refine TQ.guardYes (d := 21) rfl rfl rfl ?_
          refine TQ.via rfl rfl rfl rfl (fun w2 hw2 => TL.loadAgg (cl (En.rec la 0)) ag32 rfl rfl (fun j hj => hea 0 hpa _ hw2 j hj) rfl (TL.done ⟨rfl, rfl⟩)) ?_
          refine TQ.guardYes (d := 21) rfl rfl rfl ?_
          refine TQ.via rfl rfl rfl rfl (fun w2 hw2 => TL.move rfl rfl (TL.done ⟨rfl, rfl⟩)) ?_
          refine TQ.guardYes (d := 21) rfl rfl rfl ?_
          refine TQ.via rfl rfl rfl rfl (fun w2 hw2 => TL.indexAddr (0) sl25 rfl rfl rfl hpb rfl (TL.done ⟨rfl, rfl⟩)) ?_
          refine TQ.guardYes (d := 21) rfl rfl rfl ?_
          refine TQ.via rfl rfl rfl rfl (fun w2 hw2 => TL.loadAgg (cl (En.rec lb 0)) ag32 rfl rfl (fun j hj => heb 0 hpb _ hw2 j hj) rfl (TL.done ⟨rfl, rfl⟩)) ?_
          refine TQ.guardYes (d := 21) rfl rfl rfl ?_
          refine TQ.call (.bool (decide (En.less (En.rec la 0) (En.rec lb 0)))) can36 rfl rfl (fun w2 hw2 => (fn36 _ _ w2).mono (fun _ _ ⟨q1, q2⟩ => ⟨q1, hw2.trans0 q2⟩)) ?_
          refine TQ.guardYes (d := 17) rfl rfl rfl ?_
          refine TQ.via rfl rfl rfl rfl (fun w2 hw2 => TL.pickT rfl rfl rfl rfl (TL.done ⟨rfl, rfl⟩)) ?_
          refine TQ.via rfl rfl rfl rfl (fun w2 hw2 => TL.pickF rfl rfl rfl rfl (TL.done ⟨rfl, rfl⟩)) ?_
          refine TQ.done (fun w2 hw2 => ?_)
          exact hK4  _ _ (by repeat (first | exact trivial | refine ⟨rfl, ?_⟩ | refine ⟨congrArg (fun b => some (Value.bool b)) (by first | exact (decide_eq_true (by grind)).symm | exact (decide_eq_false (by grind)).symm | exact decide_eq_decide.2 (by grind) | exact decide_eq_true (by grind) | exact decide_eq_false (by grind) | (exfalso; grind)), ?_⟩)) (hw2)
        ·
          have ha0 : la = [] := List.eq_nil_of_length_eq_zero (by omega)
          have ha2 : ¬ En.ahead2 la lb := fun h => by rcases h with h | ⟨h, _⟩; exact hb0 h; exact h ha0
          refine TQ.guardYes (d := 17) rfl rfl rfl ?_
          refine TQ.via rfl rfl rfl rfl (fun w2 hw2 => TL.move rfl rfl (TL.done ⟨rfl, rfl⟩)) ?_
          refine TQ.guardNo (d := 21) rfl rfl rfl rfl rfl ?_
          refine TQ.guardNo (d := 21) rfl rfl rfl rfl rfl ?_
          refine TQ.guardNo (d := 21) rfl rfl rfl rfl rfl ?_
          refine TQ.guardNo (d := 21) rfl rfl rfl rfl rfl ?_
          refine TQ.guardNo (d := 21) rfl rfl rfl rfl rfl ?_
          refine TQ.guardNo (d := 21) rfl rfl rfl rfl rfl ?_
          refine TQ.guardNo (d := 21) rfl rfl rfl rfl rfl ?_
          refine TQ.guardYes (d := 17) rfl rfl rfl ?_
          refine TQ.via rfl rfl rfl rfl (fun w2 hw2 => TL.pickF rfl rfl rfl rfl (TL.done ⟨rfl, rfl⟩)) ?_
          refine TQ.via rfl rfl rfl rfl (fun w2 hw2 => TL.pickF rfl rfl rfl rfl (TL.done ⟨rfl, rfl⟩)) ?_
          refine TQ.done (fun w2 hw2 => ?_)
          exact hK4  _ _ (by repeat (first | exact trivial | refine ⟨rfl, ?_⟩ | refine ⟨congrArg (fun b => some (Value.bool b)) (by first | exact (decide_eq_true (by grind)).symm | exact (decide_eq_false (by grind)).symm | exact decide_eq_decide.2 (by grind) | exact decide_eq_true (by grind) | exact decide_eq_false (by grind) | (exfalso; grind)), ?_⟩)) (hw2)
    ·
      have hown3 := hown.ch0 hH3
      have q3 := hch.trans0 hH3
      have hor : 0 < la.length ∨ 0 < lb.length := by assumption
      refine TC.condP rfl (fun h7 => ?_) (fun h7 => ?_)
      ·
        have hd : En.ahead2 la lb := by assumption
        have hpa : 0 < la.length := by rcases hor with h | h; exact h; rcases hd with hd | ⟨hd, _⟩; subst hd; simp at h; exact List.length_pos_iff.2 hd
        obtain ⟨b1, o1, rfl, hea⟩ := recAll (hra.ch0 q3) hpa
        have ht2 := ht.left (List.length_pos_iff.1 hpa) hd
        refine TC.seq ?_
        refine TC.region ?_
        refine TL.move rfl rfl ?_
        refine TL.move rfl rfl ?_
        refine TL.indexAddr (0) sl25 rfl rfl rfl hpa rfl ?_
        refine TL.loadAgg (cl (En.rec la 0)) ag32 rfl rfl (fun j hj => hea 0 hpa _ (Ch.refl _ _) j hj) rfl ?_
        refine TL.buildSlice [.tmp 34] sl25 rfl rfl rfl (by decide) (by first | simp [Value.cells]; done | simp [Value.cells, cl_len]; done) rfl (fun w35 hb35 hc35 hz35 => ?_)
        refine TL.append sl25 rfl rfl rfl (hown3.ch0 hc35) (News.ofRd Try.underlying25 (recOne hb35) (rows_one _)) (by omega) (by omega) (by have := q3.size; have := hc35.size; omega) (fun v36 w36 hv36 hc36 _ => ?_)
        have hda : (la.drop 1).length = la.length - 1 := List.length_drop
        refine TL.assign rfl rfl ?_
        refine TL.done ?_
        refine Thn.go ?_
        refine TC.region ?_
        refine TL.move rfl rfl ?_
        refine TL.sliceFrom (1) sl25 rfl rfl rfl hpa rfl ?_
        refine TL.assign rfl rfl ?_
        refine TL.done ?_
        refine Blk.go ?_
        refine Lp.go ((la.length - 1 + lb.length, .slice (adv (some ⟨b1, o1, none⟩) ca 1 4) (la.length - 1) (ca - 1), .slice adb lb.length cb, v36)) (by repeat (first | exact trivial | refine ⟨rfl, ?_⟩)) ?_ (by first | omega | (dsimp only; omega))
        have hsuf := suffixRd hra (i := 1) (by omega)
        exact ⟨⟨la.drop 1, lb, out ++ [En.rec la 0], ht2, by rw [hda] at hsuf ⊢; exact hsuf, hrb, by rw [List.length_append, List.flatMap_append]; exact hv36, by rw [hda]⟩, (hown3.ch0 hc35).thenCh' (q3.trans0 hc35) hc36 (Nat.le_refl _)⟩
      ·
        have hd : ¬ En.ahead2 la lb := by assumption
        have hpb : 0 < lb.length := by rcases Nat.eq_zero_or_pos lb.length with h | h; exact absurd (.inl (List.eq_nil_of_length_eq_zero h)) hd; exact h
        obtain ⟨b2, o2, rfl, heb⟩ := recAll (hrb.ch0 q3) hpb
        have ht2 := ht.right (List.length_pos_iff.1 hpb) hd
        refine TC.seq ?_
        refine TC.region ?_
        refine TL.move rfl rfl ?_
        refine TL.move rfl rfl ?_
        refine TL.indexAddr (0) sl25 rfl rfl rfl hpb rfl ?_
        refine TL.loadAgg (cl (En.rec lb 0)) ag32 rfl rfl (fun j hj => heb 0 hpb _ (Ch.refl _ _) j hj) rfl ?_
        refine TL.buildSlice [.tmp 42] sl25 rfl rfl rfl (by decide) (by first | simp [Value.cells]; done | simp [Value.cells, cl_len]; done) rfl (fun w43 hb43 hc43 hz43 => ?_)
        refine TL.append sl25 rfl rfl rfl (hown3.ch0 hc43) (News.ofRd Try.underlying25 (recOne hb43) (rows_one _)) (by omega) (by omega) (by have := q3.size; have := hc43.size; omega) (fun v44 w44 hv44 hc44 _ => ?_)
        have hdb : (lb.drop 1).length = lb.length - 1 := List.length_drop
        refine TL.assign rfl rfl ?_
        refine TL.done ?_
        refine Thn.go ?_
        refine TC.region ?_
        refine TL.move rfl rfl ?_
        refine TL.sliceFrom (1) sl25 rfl rfl rfl hpb rfl ?_
        refine TL.assign rfl rfl ?_
        refine TL.done ?_
        refine Blk.go ?_
        refine Lp.go ((la.length + (lb.length - 1), .slice ada la.length ca, .slice (adv (some ⟨b2, o2, none⟩) cb 1 4) (lb.length - 1) (cb - 1), v44)) (by repeat (first | exact trivial | refine ⟨rfl, ?_⟩)) ?_ (by first | omega | (dsimp only; omega))
        have hsuf := suffixRd hrb (i := 1) (by omega)
        exact ⟨⟨la, lb.drop 1, out ++ [En.rec lb 0], ht2, hra, by rw [hdb] at hsuf ⊢; exact hsuf, by rw [List.length_append, List.flatMap_append]; exact hv44, by rw [hdb]⟩, (hown3.ch0 hc43).thenCh' (q3.trans0 hc43) hc44 (Nat.le_refl _)⟩
  ·
    have hno : ¬ (0 < la.length ∨ 0 < lb.length) := by assumption
    have ea : la = [] := List.eq_nil_of_length_eq_zero (by omega)
    have eb : lb = [] := List.eq_nil_of_length_eq_zero (by omega)
    rw [ea, eb] at ht
    refine TC.exit ?_
    refine Thn.exit ?_
    refine Lp.exit ?_
    refine Blk.hit ?_
    refine Thn.go ?_
    refine TC.seq ?_
    refine TC.region ?_
    refine TL.move rfl rfl ?_
    refine TL.assign rfl rfl ?_
    refine TL.done ?_
    refine Thn.go ?_
    refine TC.ret ?_
    refine Ends.ret [4] rfl rfl ?_
    exact ⟨out, ht.done.1, ht.done.2, hown, hch⟩

theorem fn16 (av : Value) (Ls : List Row) (w : World) (ha : Rd w av 1 Ls.length (vals Ls)) (hr : ∀ p ∈ Ls, Rd w p.1 4 p.2.length (p.2.flatMap cl)) (hsum : (Ls.map (·.2)).flatten.length ≤ 1000000) : Rets Try.prog 16 #[av] w (fun r w' => ∃ o, r = .tuple #[o, .int .i64 (En.allE (Ls.map (·.2)) : Int)] ∧ Own w' w.heap.size 32 4 o (En.allL (Ls.map (·.2))).length ((En.allL (Ls.map (·.2))).flatMap cl) ∧ Ch [] w w') := by
  obtain ⟨ad, c, rfl, _⟩ := ha.shape
  have hmm : maxLen = 9223372036854775807 := rfl
  obtain ⟨D, hD⟩ : ∃ D, Ls.map (·.2) = D := ⟨_, rfl⟩
  have hDl : D.length = Ls.length := by rw [← hD]; simp
  have hDg : ∀ (i : Nat) (h : i < Ls.length), D[i]'(by omega) = Ls[i].2 := fun i h => by subst hD; simp
  rw [hD] at hsum ⊢
  refine Rets.of (n := 66) (vs := [_]) Try.func16 rfl rfl rfl ?_
  refine TC.seq ?_
  refine TC.region ?_
  refine TL.assign rfl rfl ?_
  refine TL.assign rfl rfl ?_
  refine TL.done ?_
  refine Thn.go ?_
  refine TC.seq ?_
  refine TC.seq ?_
  refine TC.region ?_
  refine TL.move rfl rfl ?_
  refine TL.lenSlice Try.underlying22 rfl rfl ?_
  refine TL.gtr rfl rfl rfl ?_
  refine TL.done ?_
  refine Thn.go ?_
  refine TC.condP rfl (fun h1 => ?_) (fun h1 => ?_)
  ·
    obtain ⟨e1, e2⟩ := En.all_rows (Ls := D) (by omega)
    refine TC.seq ?_
    refine TC.region ?_
    refine TL.assign rfl rfl ?_
    refine TL.assign rfl rfl ?_
    refine TL.done ?_
    refine Thn.go ?_
    refine TC.ret ?_
    refine Thn.ret ?_
    refine Ends.ret [2, 3] rfl rfl ?_
    exact ⟨_, by rw [e1]; rfl, by rw [e2]; exact World.ownsRow_nil _ _ _ _, Ch.refl _ _⟩
  ·
    have h64 : ¬ 64 < D.length := by omega
    refine TC.skip ?_
    refine Thn.go ?_
    refine TC.seq ?_
    refine TC.region ?_
    refine TL.assign rfl rfl ?_
    refine TL.done ?_
    refine Thn.go ?_
    refine TC.seq ?_
    refine TC.seq ?_
    refine TC.region ?_
    refine TL.assign rfl rfl ?_
    refine TL.done ?_
    refine Thn.go ?_
    refine TC.block ?_
    refine TC.loop1 (fun (i : Nat) => [(0, .slice ad Ls.length c), (4, .int .i64 (En.many D i : Int)), (5, .int .i64 (i : Int))]) (fun i w' => i ≤ Ls.length ∧ (∀ j (hj : j < i) (hj2 : j < D.length), En.checkE D[j] = 0) ∧ Ch [] w w') (fun i => Ls.length - i) 0 (by repeat (first | exact trivial | refine ⟨rfl, ?_⟩)) (⟨by omega, fun j hj => by omega, Ch.refl _ _⟩) (fun i w' hH => ?_)
    obtain ⟨hi, hg, hch⟩ := hH
    have hsu := Nat.le_trans (En.many_le D i) hsum
    refine TC.seq ?_
    refine TC.seq ?_
    refine TC.region ?_
    refine TL.move rfl rfl ?_
    refine TL.move rfl rfl ?_
    refine TL.lenSlice Try.underlying22 rfl rfl ?_
    refine TL.lss rfl rfl rfl ?_
    refine TL.done ?_
    refine Thn.go ?_
    refine TC.condP rfl (fun h2 => ?_) (fun h2 => ?_)
    ·
      have hil : i < Ls.length := by omega
      obtain ⟨b1, o1, rfl⟩ := ha.some_ (by omega)
      have hcell : ∀ w2, Ch [] w w2 → w2.cell? ⟨b1, o1 + i * 1, none⟩ = some Ls[i].1 := fun w2 h2 => Rd.eltIn (f := (·.1)) (ha.ch0 h2) hil
      have hri := hr Ls[i] (List.getElem_mem hil)
      have hDi := hDg i hil
      have hmn := En.many_next (Ls := D) (k := i) (by omega)
      have hml := Nat.le_trans (En.many_le D (i + 1)) hsum
      have hgi : En.checkE (D[i]'(by omega)) = En.checkE Ls[i].2 := by rw [hDi]
      rw [hDi] at hmn
      obtain ⟨x, ex⟩ : ∃ x, Ls[i] = x := ⟨_, rfl⟩
      rw [ex] at hcell hri hmn hgi
      obtain ⟨xv, r⟩ := x
      replace hri : Rd w xv 4 r.length (r.flatMap cl) := hri
      replace hmn : En.many D (i + 1) = En.many D i + r.length := hmn
      replace hgi : En.checkE (D[i]'(by omega)) = En.checkE r := hgi
      obtain ⟨ar, cr, rfl, _⟩ := hri.shape
      refine TC.skip ?_
      refine Thn.go ?_
      refine TC.seq ?_
      refine TC.block ?_
      refine TC.seq ?_
      refine TC.region ?_
      refine TL.move rfl rfl ?_
      refine TL.move rfl rfl ?_
      refine TL.indexAddr (i) sl22 rfl rfl (by first | rfl | omega) (by omega) rfl ?_
      refine TL.load pl25 rfl (hcell _ hch) rfl ?_
      refine TL.call can34 rfl rfl (fn34 _ r w' (hri.ch0 hch)) (fun v23 w23 hr23 => ?_)
      obtain ⟨rfl, hc23⟩ := hr23
      refine TL.assign rfl rfl ?_
      refine TL.done ?_
      refine Thn.go ?_
      refine TC.seq ?_
      refine TC.seq ?_
      refine TC.region ?_
      refine TL.move rfl rfl ?_
      refine TL.neq rfl rfl rfl ?_
      refine TL.done ?_
      refine Thn.go ?_
      refine TC.condP rfl (fun h3 => ?_) (fun h3 => ?_)
      ·
        have hre := En.rowsE_at (Ls := D) (k := i) (by omega) (fun j hj => hg j hj (by omega)) (by rw [hgi]; omega)
        obtain ⟨e1, e2⟩ := En.all_bad h64 (by rw [hre, hgi]; omega)
        refine TC.seq ?_
        refine TC.region ?_
        refine TL.move rfl rfl ?_
        refine TL.assign rfl rfl ?_
        refine TL.assign rfl rfl ?_
        refine TL.done ?_
        refine Thn.go ?_
        refine TC.ret ?_
        refine Thn.ret ?_
        refine Blk.ret ?_
        refine Thn.ret ?_
        refine Lp.ret ?_
        refine Blk.ret ?_
        refine Thn.ret ?_
        refine Ends.ret [2, 3] rfl rfl ?_
        exact ⟨_, by rw [e1, hre, hgi]; rfl, by rw [e2]; exact World.ownsRow_nil _ _ _ _, hch.trans0 hc23⟩
      ·
        have hgn : ∀ j (hj : j < i + 1) (hj2 : j < D.length), En.checkE D[j] = 0 := fun j hj hj2 => by
          rcases Nat.lt_or_ge j i with h | h
          · exact hg j h hj2
          · obtain rfl : j = i := by omega
            rw [hgi]; omega
        refine TC.skip ?_
        refine Thn.go ?_
        refine TC.region ?_
        refine TL.move rfl rfl ?_
        refine TL.move rfl rfl ?_
        refine TL.move rfl rfl ?_
        refine TL.indexAddr (i) sl22 rfl rfl (by first | rfl | omega) (by omega) rfl ?_
        refine TL.load pl25 rfl (hcell _ (hch.trans0 hc23)) rfl ?_
        refine TL.lenSlice Try.underlying25 rfl rfl ?_
        refine TL.add_i64 rfl rfl (by omega) (by omega) rfl ?_
        rw [show ((En.many D i : Nat) : Int) + (r.length : Int) = ((En.many D (i + 1) : Nat) : Int) by omega]
        refine TL.assign rfl rfl ?_
        refine TL.done ?_
        refine Blk.go ?_
        refine Thn.go ?_
        refine TC.region ?_
        refine TL.move rfl rfl ?_
        refine TL.add_i64 rfl rfl (by omega) (by omega) rfl ?_
        refine TL.assign rfl rfl ?_
        refine TL.done ?_
        refine Lp.go (i + 1) (by repeat (first | exact trivial | refine ⟨rfl, ?_⟩)) ?_ (by first | omega | (dsimp only; omega))
        exact ⟨by omega, hgn, hch.trans0 hc23⟩
    ·
      have hil : i = Ls.length := by omega
      subst hil
      have hDall := En.many_all D
      rw [hDl] at hDall
      have hre : En.rowsE D = 0 := En.rowsE_ok (fun j hj => hg j (by omega) hj)
      refine TC.exit ?_
      refine Thn.exit ?_
      refine Lp.exit ?_
      refine Blk.hit ?_
      refine Thn.go ?_
      refine TC.seq ?_
      refine TC.seq ?_
      refine TC.region ?_
      refine TL.move rfl rfl ?_
      refine TL.gtr rfl rfl rfl ?_
      refine TL.done ?_
      refine Thn.go ?_
      refine TC.condP rfl (fun h4 => ?_) (fun h4 => ?_)
      ·
        obtain ⟨e1, e2⟩ := En.all_many h64 hre (by omega)
        refine TC.seq ?_
        refine TC.region ?_
        refine TL.assign rfl rfl ?_
        refine TL.assign rfl rfl ?_
        refine TL.done ?_
        refine Thn.go ?_
        refine TC.ret ?_
        refine Thn.ret ?_
        refine Ends.ret [2, 3] rfl rfl ?_
        exact ⟨_, by rw [e1]; rfl, by rw [e2]; exact World.ownsRow_nil _ _ _ _, hch⟩
      ·
        have hmax : ¬ 16384 < D.flatten.length := by omega
        refine TC.skip ?_
        refine Thn.go ?_
        refine TC.seq ?_
        refine TC.region ?_
        refine TL.assign rfl rfl ?_
        refine TL.done ?_
        refine Thn.go ?_
        refine TC.seq ?_
        refine TC.seq ?_
        refine TC.region ?_
        refine TL.assign rfl rfl ?_
        refine TL.done ?_
        refine Thn.go ?_
        refine TC.block ?_
        refine TC.loop2 (fun (i : Nat) (ov : Value) => [(0, .slice ad Ls.length c), (7, ov), (8, .int .i64 (i : Int))]) (fun i ov w2 => i ≤ Ls.length ∧ (∃ out : List En.Entry, out.Perm (D.take i).flatten ∧ En.Weak out ∧ Own w2 w'.heap.size 32 4 ov out.length (out.flatMap cl)) ∧ Ch [] w' w2) (fun i _ => Ls.length - i) 0 (.slice none 0 0) (by repeat (first | exact trivial | refine ⟨rfl, ?_⟩)) (⟨by omega, ⟨[], by simp, List.Pairwise.nil, World.ownsRow_nil _ _ _ _⟩, Ch.refl _ _⟩) (fun i ov w2 hH => ?_)
        obtain ⟨hi2, ⟨out, hpo, hwo, hown⟩, hch2⟩ := hH
        have hol := hpo.length_eq
        have hsu2 : (D.take i).flatten.length ≤ 1000000 := Nat.le_trans (En.many_le D i) hsum
        refine TC.seq ?_
        refine TC.seq ?_
        refine TC.region ?_
        refine TL.move rfl rfl ?_
        refine TL.move rfl rfl ?_
        refine TL.lenSlice Try.underlying22 rfl rfl ?_
        refine TL.lss rfl rfl rfl ?_
        refine TL.done ?_
        refine Thn.go ?_
        refine TC.condP rfl (fun h5 => ?_) (fun h5 => ?_)
        ·
          have hil : i < Ls.length := by omega
          obtain ⟨b1, o1, rfl⟩ := ha.some_ (by omega)
          have hcell : w2.cell? ⟨b1, o1 + i * 1, none⟩ = some Ls[i].1 := Rd.eltIn (f := (·.1)) ((ha.ch0 hch).ch0 hch2) hil
          have hri := hr Ls[i] (List.getElem_mem hil)
          have hDi := hDg i hil
          have hck : En.checkE Ls[i].2 = 0 := by rw [← hDi]; exact hg i hil (by omega)
          have htk : (D.take (i + 1)).flatten = (D.take i).flatten ++ Ls[i].2 := by rw [List.take_add_one, List.getElem?_eq_getElem (by omega : i < D.length), hDi, List.flatten_append]; simp
          obtain ⟨x, ex⟩ : ∃ x, Ls[i] = x := ⟨_, rfl⟩
          rw [ex] at hcell hri hck htk
          obtain ⟨xv, r⟩ := x
          replace hri : Rd w xv 4 r.length (r.flatMap cl) := hri
          have hrs : r.Pairwise En.less := En.check_rises hck
          have hrl : r.length ≤ 4096 := (En.check_zero hck).1
          obtain ⟨ar, cr, rfl, _⟩ := hri.shape
          refine TC.skip ?_
          refine Thn.go ?_
          refine TC.seq ?_
          refine TC.block ?_
          refine TC.region ?_
          refine TL.move rfl rfl ?_
          refine TL.move rfl rfl ?_
          refine TL.move rfl rfl ?_
          refine TL.indexAddr (i) sl22 rfl rfl (by first | rfl | omega) (by omega) rfl ?_
          refine TL.load pl25 rfl (hcell) rfl ?_
          refine TL.call can35 rfl rfl (fn35 _ _ out r hwo (En.rises_weak hrs) (by omega) w2 (Rd.ofOwn hown) ((hri.ch0 hch).ch0 hch2)) (fun v47 w47 hr47 => ?_)
          obtain ⟨out2, hp2, hw2', hown2, hc47⟩ := hr47
          refine TL.assign rfl rfl ?_
          refine TL.done ?_
          refine Blk.go ?_
          refine Thn.go ?_
          refine TC.region ?_
          refine TL.move rfl rfl ?_
          refine TL.add_i64 rfl rfl (by omega) (by omega) rfl ?_
          refine TL.assign rfl rfl ?_
          refine TL.done ?_
          refine Lp.go ((i + 1, v47)) (by repeat (first | exact trivial | refine ⟨rfl, ?_⟩)) ?_ (by first | omega | (dsimp only; omega))
          exact ⟨by show i + 1 ≤ Ls.length; omega, ⟨out2, by show out2.Perm (D.take (i + 1)).flatten; rw [htk]; exact hp2.trans (hpo.append_right r), hw2', hown2.base hch2.size⟩, hch2.trans0 hc47⟩
        ·
          have hil : i = Ls.length := by omega
          subst hil
          rw [← hDl, List.take_length] at hpo
          obtain ⟨ao, co, rfl⟩ := hown.shape
          have hq2 := hch.trans0 hch2
          have hol2 := hpo.length_eq
          refine TC.exit ?_
          refine Thn.exit ?_
          refine Lp.exit ?_
          refine Blk.hit ?_
          refine Thn.go ?_
          refine TC.seq ?_
          refine TC.seq ?_
          refine TC.region ?_
          refine TL.assign rfl rfl ?_
          refine TL.done ?_
          refine Thn.go ?_
          refine TC.block ?_
          refine TC.loop1 (fun (p : Nat) => [(7, .slice ao out.length co), (9, .int .i64 ((p + 1 : Nat) : Int))]) (fun p w3 => (p + 1 ≤ out.length ∨ p = 0) ∧ (∀ j, 0 < j → j < p + 1 → En.less (En.rec out (j - 1)) (En.rec out j)) ∧ Ch [] w2 w3) (fun p => out.length - p) 0 (by repeat (first | exact trivial | refine ⟨rfl, ?_⟩)) (⟨.inr rfl, fun j h1 h2 => by omega, Ch.refl _ _⟩) (fun p w3 hH => ?_)
          obtain ⟨hp1, hgl, hch3⟩ := hH
          refine TC.seq ?_
          refine TC.seq ?_
          refine TC.region ?_
          refine TL.move rfl rfl ?_
          refine TL.move rfl rfl ?_
          refine TL.lenSlice Try.underlying25 rfl rfl ?_
          refine TL.lss rfl rfl rfl ?_
          refine TL.done ?_
          refine Thn.go ?_
          refine TC.condP rfl (fun h6 => ?_) (fun h6 => ?_)
          ·
            have hpl : p + 1 < out.length := by omega
            obtain ⟨b5, o5, rfl, hall5⟩ := recAll ((Rd.ofOwn hown).ch0 hch3) (by omega)
            refine TC.skip ?_
            refine Thn.go ?_
            refine TC.seq ?_
            refine TC.block ?_
            refine TC.seq ?_
            refine TC.regionQ (fun w6 => Ch [] w3 w6) mixed0 (by kernel_rfl) (Ch.drew [] _) ?_
            refine TQ.via rfl rfl rfl rfl (fun w2 hw2 => TL.move rfl rfl (TL.done ⟨rfl, rfl⟩)) ?_
            refine TQ.via rfl rfl rfl rfl (fun w2 hw2 => TL.move rfl rfl (TL.done ⟨rfl, rfl⟩)) ?_
            refine TQ.via rfl rfl rfl rfl (fun w2 hw2 => TL.sub_i64 rfl rfl (by omega) (by omega) rfl (TL.done ⟨rfl, rfl⟩)) ?_
            refine TQ.via rfl rfl rfl rfl (fun w2 hw2 => TL.indexAddr (p) sl25 rfl rfl (by first | rfl | omega) (by omega) rfl (TL.done ⟨rfl, rfl⟩)) ?_
            refine TQ.via rfl rfl rfl rfl (fun w2 hw2 => TL.loadAgg (cl (En.rec out p)) ag32 rfl rfl (fun j hj => hall5 p (by omega) _ hw2 j hj) rfl (TL.done ⟨rfl, rfl⟩)) ?_
            refine TQ.via rfl rfl rfl rfl (fun w2 hw2 => TL.move rfl rfl (TL.done ⟨rfl, rfl⟩)) ?_
            refine TQ.via rfl rfl rfl rfl (fun w2 hw2 => TL.move rfl rfl (TL.done ⟨rfl, rfl⟩)) ?_
            refine TQ.via rfl rfl rfl rfl (fun w2 hw2 => TL.indexAddr (p + 1) sl25 rfl rfl (by first | rfl | omega) (by omega) rfl (TL.done ⟨rfl, rfl⟩)) ?_
            refine TQ.via rfl rfl rfl rfl (fun w2 hw2 => TL.loadAgg (cl (En.rec out (p + 1))) ag32 rfl rfl (fun j hj => hall5 (p + 1) hpl _ hw2 j hj) rfl (TL.done ⟨rfl, rfl⟩)) ?_
            refine TQ.call (.bool (decide (En.less (En.rec out p) (En.rec out (p + 1))))) can36 rfl rfl (fun w2 hw2 => (fn36 _ _ w2).mono (fun _ _ ⟨q1, q2⟩ => ⟨q1, hw2.trans0 q2⟩)) ?_
            refine TQ.via rfl rfl rfl rfl (fun w2 hw2 => TL.notP rfl rfl (TL.done ⟨rfl, rfl⟩)) ?_
            refine TQ.done (fun w2 hw2 => ?_)
            refine Thn.go ?_
            refine TC.condP rfl (fun h7 => ?_) (fun h7 => ?_)
            ·
              obtain ⟨e1, e2⟩ := En.all_clash h64 hre hmax (En.weak_clash hpo hwo (i := p + 1) (by omega) hpl (by rw [Nat.add_sub_cancel]; assumption))
              refine TC.seq ?_
              refine TC.region ?_
              refine TL.assign rfl rfl ?_
              refine TL.assign rfl rfl ?_
              refine TL.done ?_
              refine Thn.go ?_
              refine TC.ret ?_
              refine Blk.ret ?_
              refine Thn.ret ?_
              refine Lp.ret ?_
              refine Blk.ret ?_
              refine Thn.ret ?_
              refine Ends.ret [2, 3] rfl rfl ?_
              exact ⟨_, by rw [e1]; rfl, by rw [e2]; exact World.ownsRow_nil _ _ _ _, hq2.trans0 (hch3.trans0 hw2)⟩
            ·
              refine TC.skip ?_
              refine Blk.go ?_
              refine Thn.go ?_
              refine TC.region ?_
              refine TL.move rfl rfl ?_
              refine TL.add_i64 rfl rfl (by omega) (by omega) rfl ?_
              refine TL.assign rfl rfl ?_
              refine TL.done ?_
              refine Lp.go (p + 1) (by repeat (first | exact trivial | refine ⟨rfl, ?_⟩)) ?_ (by first | omega | (dsimp only; omega))
              refine ⟨.inl (by omega), fun j h1 h2 => ?_, hch3.trans0 hw2⟩
              rcases Nat.lt_or_ge j (p + 1) with h | h
              · exact hgl j h1 h
              · rw [show j = p + 1 by omega, Nat.add_sub_cancel]; exact Decidable.not_not.1 (by assumption)
          ·
            have hri : out.Pairwise En.less := En.rises (fun j h1 h2 => hgl j h1 (by omega))
            obtain ⟨e1, e2⟩ := En.all_ok h64 hre hmax hpo hri
            refine TC.exit ?_
            refine Thn.exit ?_
            refine Lp.exit ?_
            refine Blk.hit ?_
            refine Thn.go ?_
            refine TC.seq ?_
            refine TC.region ?_
            refine TL.move rfl rfl ?_
            refine TL.assign rfl rfl ?_
            refine TL.assign rfl rfl ?_
            refine TL.done ?_
            refine Thn.go ?_
            refine TC.ret ?_
            refine Ends.ret [2, 3] rfl rfl ?_
            exact ⟨_, by rw [e1]; rfl, by rw [e2]; exact (hown.ch0 hch3).base hch.size, hq2.trans0 hch3⟩

