/-
  Walks through the given program: each theorem fnN says what the call of function N of the translation hands back, for all arguments that its premises describe, and that nothing that was there has turned.
-/
import Derived.Test.YtcoaophfojkldaaR2
namespace Go.Proofs.Ytcoaophfojkldaa
open Go.Lane
theorem can24 : Callable Try.prog 24 := ⟨Try.f24, Try.func24, by kernel_rfl, rfl⟩
theorem can25 : Callable Try.prog 25 := ⟨Try.f25, Try.func25, by kernel_rfl, rfl⟩
theorem can26 : Callable Try.prog 26 := ⟨Try.f26, Try.func26, by kernel_rfl, rfl⟩
theorem can28 : Callable Try.prog 28 := ⟨Try.f28, Try.func28, by kernel_rfl, rfl⟩
theorem can29 : Callable Try.prog 29 := ⟨Try.f29, Try.func29, by kernel_rfl, rfl⟩
theorem recOne {x : Audit.Record} {w : World} {b : Nat} {fr : Nat × Nat} (h : Has w b (flat [.agg (cl x).toArray]).toArray 32 fr) : Rd w (.slice (some ⟨b, 0, none⟩) 1 1) 6 1 ([x].flatMap cl) := by
  have := Rd.ofFlat (sz := 6) (m := 1) h (by simp [Value.cells, cl_len]) rfl (by decide)
  simpa [flat, Value.cells] using this
theorem recs_ext {l m : List Audit.Record} (h : l.length = m.length) (h2 : ∀ j, j < l.length → Audit.rec l j = Audit.rec m j) : l = m := by
  apply List.ext_getElem h
  intro i h3 h4
  rw [Audit.rec_eq h3, Audit.rec_eq h4]; exact h2 i h3
theorem Rd.recs {w : World} {v : Value} {n : Nat} {cs : List Value} (h : Rd w v 6 n cs) (l : List Audit.Record) (hn : n = l.length) (hcs : cs = l.flatMap cl) : Rd w v 6 l.length (l.flatMap cl) := by subst hn; subst hcs; exact h

theorem fn12 (a b : Value) (l m : List Audit.Record) (w : World) (ha : Rd w a 6 l.length (l.flatMap cl)) (hb : Rd w b 6 m.length (m.flatMap cl)) : Rets Try.prog 12 #[a, b] w (fun v w' => v = .bool (decide (l = m)) ∧ Ch [] w w') := by
  obtain ⟨ad, c, rfl, _⟩ := ha.shape
  obtain ⟨bd, d, rfl, _⟩ := hb.shape
  have hmx : l.length ≤ 9223372036854775807 := ha.nlt
  refine Rets.of (n := 26) (vs := [_, _]) Try.func12 rfl rfl rfl ?_
  refine TC.seq ?_
  refine TC.region ?_
  refine TL.assign rfl rfl ?_
  refine TL.done ?_
  refine Thn.go ?_
  refine TC.seq ?_
  refine TC.seq ?_
  refine TC.region ?_
  refine TL.move rfl rfl ?_
  refine TL.lenSlice Try.underlying22 rfl rfl ?_
  refine TL.move rfl rfl ?_
  refine TL.lenSlice Try.underlying22 rfl rfl ?_
  refine TL.neq rfl rfl rfl ?_
  refine TL.done ?_
  refine Thn.go ?_
  refine TC.condP rfl (fun h1 => ?_) (fun h1 => ?_)
  ·
    refine TC.seq ?_
    refine TC.region ?_
    refine TL.assign rfl rfl ?_
    refine TL.done ?_
    refine Thn.go ?_
    refine TC.ret ?_
    refine Thn.ret ?_
    refine Ends.ret [4] rfl rfl ?_
    exact ⟨congrArg Value.bool (decide_eq_false (by rintro rfl; exact h1 rfl)).symm, Ch.refl _ _⟩
  ·
    have hlm : l.length = m.length := by omega
    refine TC.skip ?_
    refine Thn.go ?_
    refine TC.seq ?_
    refine TC.seq ?_
    refine TC.region ?_
    refine TL.assign rfl rfl ?_
    refine TL.done ?_
    refine Thn.go ?_
    refine TC.block ?_
    refine TC.loop1 (fun (i : Nat) => [(0, .slice ad l.length c), (1, .slice bd m.length d), (5, .int .i64 (i : Int))]) (fun i w' => i ≤ l.length ∧ (∀ j, j < i → Audit.rec l j = Audit.rec m j) ∧ Ch [] w w') (fun i => l.length - i) 0 (by repeat (first | exact trivial | refine ⟨rfl, ?_⟩)) (⟨by omega, by intro j hj; omega, Ch.refl _ _⟩) (fun i w' hH => ?_)
    obtain ⟨hi, hg, hch⟩ := hH
    refine TC.seq ?_
    refine TC.seq ?_
    refine TC.region ?_
    refine TL.move rfl rfl ?_
    refine TL.move rfl rfl ?_
    refine TL.lenSlice Try.underlying22 rfl rfl ?_
    refine TL.lss rfl rfl rfl ?_
    refine TL.done ?_
    refine Thn.go ?_
    refine TC.condP rfl (fun h2 => ?_) (fun h2 => ?_)
    ·
      have hil : i < l.length := by omega
      obtain ⟨b1, o1, rfl, _⟩ := recAt ha hil
      obtain ⟨b2, o2, rfl, _⟩ := recAt hb (i := i) (by omega)
      have hce : ∀ w2, Ch [] w w2 → ∀ j, j < 6 → w2.cell? ⟨b1, o1 + i * 6 + j, none⟩ = (cl (Audit.rec l i))[j]? := fun w2 h2 => by obtain ⟨b', o', e, hh⟩ := recAt (ha.ch0 h2) hil; cases e; exact hh
      have hce2 : ∀ w2, Ch [] w w2 → ∀ j, j < 6 → w2.cell? ⟨b2, o2 + i * 6 + j, none⟩ = (cl (Audit.rec m i))[j]? := fun w2 h2 => by obtain ⟨b', o', e, hh⟩ := recAt (i := i) (hb.ch0 h2) (by omega); cases e; exact hh
      refine TC.skip ?_
      refine Thn.go ?_
      refine TC.seq ?_
      refine TC.block ?_
      refine TC.seq ?_
      refine TC.regionQ (fun w4 => Ch [] w w4) mixed0 (by kernel_rfl) (hch.trans0 (Ch.drew [] _)) ?_
      refine TQ.via rfl rfl rfl rfl (fun w2 hw2 => TL.move rfl rfl (TL.done ⟨rfl, rfl⟩)) ?_
      refine TQ.via rfl rfl rfl rfl (fun w2 hw2 => TL.move rfl rfl (TL.done ⟨rfl, rfl⟩)) ?_
      refine TQ.via rfl rfl rfl rfl (fun w2 hw2 => TL.indexAddr (i) sl22 rfl rfl (by first | rfl | omega) (by omega) rfl (TL.done ⟨rfl, rfl⟩)) ?_
      refine TQ.via rfl rfl rfl rfl (fun w2 hw2 => TL.loadAgg (cl (Audit.rec l i)) ag32 rfl rfl (fun j hj => hce _ hw2 j hj) rfl (TL.done ⟨rfl, rfl⟩)) ?_
      refine TQ.via rfl rfl rfl rfl (fun w2 hw2 => TL.move rfl rfl (TL.done ⟨rfl, rfl⟩)) ?_
      refine TQ.via rfl rfl rfl rfl (fun w2 hw2 => TL.move rfl rfl (TL.done ⟨rfl, rfl⟩)) ?_
      refine TQ.via rfl rfl rfl rfl (fun w2 hw2 => TL.indexAddr (i) sl22 rfl rfl (by first | rfl | omega) (by omega) rfl (TL.done ⟨rfl, rfl⟩)) ?_
      refine TQ.via rfl rfl rfl rfl (fun w2 hw2 => TL.loadAgg (cl (Audit.rec m i)) ag32 rfl rfl (fun j hj => hce2 _ hw2 j hj) rfl (TL.done ⟨rfl, rfl⟩)) ?_
      refine TQ.via rfl rfl rfl rfl (fun w2 hw2 => TL.neqAgg gd32 (eqRecord _ _ _) rfl rfl rfl (TL.done ⟨rfl, rfl⟩)) ?_
      refine TQ.done (fun w2 hw2 => ?_)
      refine Thn.go ?_
      refine TC.condP rfl (fun h3 => ?_) (fun h3 => ?_)
      ·
        refine TC.seq ?_
        refine TC.region ?_
        refine TL.assign rfl rfl ?_
        refine TL.done ?_
        refine Thn.go ?_
        refine TC.ret ?_
        refine Blk.ret ?_
        refine Thn.ret ?_
        refine Lp.ret ?_
        refine Blk.ret ?_
        refine Thn.ret ?_
        refine Ends.ret [4] rfl rfl ?_
        exact ⟨congrArg Value.bool (decide_eq_false (by rintro rfl; exact h3 rfl)).symm, hw2⟩
      ·
        refine TC.skip ?_
        refine Blk.go ?_
        refine Thn.go ?_
        refine TC.region ?_
        refine TL.move rfl rfl ?_
        refine TL.add_i64 rfl rfl (by omega) (by omega) rfl ?_
        refine TL.assign rfl rfl ?_
        refine TL.done ?_
        refine Lp.go (i + 1) (by repeat (first | exact trivial | refine ⟨rfl, ?_⟩)) ?_ (by first | omega | (dsimp only; omega))
        refine ⟨by omega, fun j hj => ?_, hw2⟩
        rcases Nat.lt_or_ge j i with h | h
        · exact hg j h
        · rw [show j = i by omega]; exact Decidable.not_not.1 h3
    ·
      have hil : i = l.length := by omega
      subst hil
      refine TC.exit ?_
      refine Thn.exit ?_
      refine Lp.exit ?_
      refine Blk.hit ?_
      refine Thn.go ?_
      refine TC.seq ?_
      refine TC.region ?_
      refine TL.assign rfl rfl ?_
      refine TL.done ?_
      refine Thn.go ?_
      refine TC.ret ?_
      refine Ends.ret [4] rfl rfl ?_
      exact ⟨congrArg Value.bool (decide_eq_true (recs_ext hlm hg)).symm, hch⟩

theorem fn13 (r : Audit.Record) (b : List UInt8) (hr : r.hash.length ≤ 100000) (hb : b.length ≤ 100000) (w : World) : Rets Try.prog 13 #[.agg (cl r).toArray, str b] w (fun v w' => v = .tuple #[str (Audit.textS r b), .int .i64 (Audit.textE r b : Int)] ∧ Ch [] w w') := by
  refine Rets.of (n := 18) (vs := [_, _]) Try.func13 rfl rfl rfl ?_
  refine TC.seq ?_
  refine TC.region ?_
  refine TL.box rfl rfl (fun w2 hb2 hc2 hz2 => ?_)
  replace hb2 : Has w2 w.heap.size (cl r).toArray 32 (0, 0) := hb2
  refine TL.assign rfl rfl ?_
  refine TL.assign rfl rfl ?_
  refine TL.done ?_
  refine Thn.go ?_
  refine TC.seq ?_
  refine TC.block ?_
  refine TC.seq ?_
  refine TC.region ?_
  refine TL.loadAgg (cl r) ag32 rfl rfl (fun j _ => by rw [hb2.cell, Nat.zero_add, List.getElem?_toArray]) rfl ?_
  refine TL.call can31 rfl rfl (fn31 r hr w2) (fun v8 w8 hr8 => ?_)
  obtain ⟨rfl, hc8⟩ := hr8
  refine TL.notP rfl rfl ?_
  refine TL.assign rfl rfl ?_
  refine TL.done ?_
  refine Thn.go ?_
  refine TC.condP rfl (fun h1 => ?_) (fun h1 => ?_)
  ·
    have e1 : Audit.textE r b = 8 := if_pos h1
    have e2 : Audit.textS r b = [] := if_neg (by omega)
    refine TC.seq ?_
    refine TC.region ?_
    refine TL.assign rfl rfl ?_
    refine TL.assign rfl rfl ?_
    refine TL.done ?_
    refine Thn.go ?_
    refine TC.ret ?_
    refine Blk.ret ?_
    refine Thn.ret ?_
    refine Ends.ret [4, 5] rfl rfl ?_
    exact ⟨by rw [e1, e2]; rfl, hc2.trans0 hc8⟩
  ·
    refine TC.seq ?_
    refine TC.region ?_
    refine TL.move rfl rfl ?_
    refine TL.call can32 rfl rfl (fn32 b hb w8) (fun v12 w12 hr12 => ?_)
    obtain ⟨rfl, hc12⟩ := hr12
    refine TL.notP rfl rfl ?_
    refine TL.assign rfl rfl ?_
    refine TL.done ?_
    refine Thn.go ?_
    refine TC.condP rfl (fun h2 => ?_) (fun h2 => ?_)
    ·
      have e1 : Audit.textE r b = 3 := by rw [Audit.textE, if_neg h1, if_pos h2]
      have e2 : Audit.textS r b = [] := if_neg (by omega)
      refine TC.seq ?_
      refine TC.region ?_
      refine TL.assign rfl rfl ?_
      refine TL.assign rfl rfl ?_
      refine TL.done ?_
      refine Thn.go ?_
      refine TC.ret ?_
      refine Blk.ret ?_
      refine Thn.ret ?_
      refine Ends.ret [4, 5] rfl rfl ?_
      exact ⟨by rw [e1, e2]; rfl, (hc2.trans0 hc8).trans0 hc12⟩
    ·
      have e1 : Audit.textE r b = 0 := by rw [Audit.textE, if_neg h1, if_neg h2]
      have e2 : Audit.textS r b = Audit.bytesR r b := if_pos e1
      obtain ⟨m1, m2, m3, m4, m5, m6, m7, m8⟩ := Decidable.not_not.1 h1
      refine TC.skip ?_
      refine Blk.go ?_
      refine Thn.go ?_
      refine TC.seq ?_
      refine TC.region ?_
      refine TL.loadAgg (cl r) ag32 rfl rfl (fun j _ => by rw [((hb2.ch0 hc8).ch0 hc12).cell, Nat.zero_add, List.getElem?_toArray]) rfl ?_
      refine TL.move rfl rfl ?_
      refine TL.call can33 rfl rfl (fn33 r b (by omega) (by omega) (by omega) w12) (fun v16 w16 hr16 => ?_)
      obtain ⟨hv16, hc16⟩ := hr16
      refine TL.bytesToStr Try.underlying50 Try.underlying5 Try.underlying9 rfl (Rd.ofOwn hv16) rfl ?_
      refine TL.assign rfl rfl ?_
      refine TL.assign rfl rfl ?_
      refine TL.done ?_
      refine Thn.go ?_
      refine TC.ret ?_
      refine Ends.ret [4, 5] rfl rfl ?_
      exact ⟨by rw [e1, e2]; rfl, ((hc2.trans0 hc8).trans0 hc12).trans0 hc16⟩

theorem fn14 (r : Audit.Record) (b : List UInt8) (hr : r.hash.length ≤ 100000) (hb : b.length ≤ 100000) (w : World) : Rets Try.prog 14 #[.agg (cl r).toArray, str b] w (fun v w' => v = .tuple #[str (Audit.textS r b), .int .i64 (Audit.textE r b : Int)] ∧ Ch [] w w') := by
  refine Rets.of (n := 16) (vs := [_, _]) Try.func14 rfl rfl rfl ?_
  refine TC.seq ?_
  refine TC.region ?_
  refine TL.box rfl rfl (fun w2 hb2 hc2 hz2 => ?_)
  replace hb2 : Has w2 w.heap.size (cl r).toArray 32 (0, 0) := hb2
  refine TL.assign rfl rfl ?_
  refine TL.assign rfl rfl ?_
  refine TL.done ?_
  refine Thn.go ?_
  refine TC.seq ?_
  refine TC.seq ?_
  refine TC.region ?_
  refine TL.loadAgg (cl r) ag32 rfl rfl (fun j _ => by rw [hb2.cell, Nat.zero_add, List.getElem?_toArray]) rfl ?_
  refine TL.call can34 rfl rfl (fn34 r hr w2) (fun v7 w7 hr7 => ?_)
  obtain ⟨rfl, hc8⟩ := hr7
  refine TL.notP rfl rfl ?_
  refine TL.done ?_
  refine Thn.go ?_
  refine TC.condP rfl (fun h1 => ?_) (fun h1 => ?_)
  ·
    have e1 : Audit.textE r b = 8 := if_pos h1
    have e2 : Audit.textS r b = [] := if_neg (by omega)
    refine TC.seq ?_
    refine TC.region ?_
    refine TL.assign rfl rfl ?_
    refine TL.assign rfl rfl ?_
    refine TL.done ?_
    refine Thn.go ?_
    refine TC.ret ?_
    refine Thn.ret ?_
    refine Ends.ret [4, 5] rfl rfl ?_
    exact ⟨by rw [e1, e2]; rfl, hc2.trans0 hc8⟩
  ·
    refine TC.skip ?_
    refine Thn.go ?_
    refine TC.seq ?_
    refine TC.seq ?_
    refine TC.region ?_
    refine TL.move rfl rfl ?_
    refine TL.call can35 rfl rfl (fn35 b hb w7) (fun v10 w10 hr10 => ?_)
    obtain ⟨rfl, hc12⟩ := hr10
    refine TL.notP rfl rfl ?_
    refine TL.done ?_
    refine Thn.go ?_
    refine TC.condP rfl (fun h2 => ?_) (fun h2 => ?_)
    ·
      have e1 : Audit.textE r b = 3 := by rw [Audit.textE, if_neg h1, if_pos h2]
      have e2 : Audit.textS r b = [] := if_neg (by omega)
      refine TC.seq ?_
      refine TC.region ?_
      refine TL.assign rfl rfl ?_
      refine TL.assign rfl rfl ?_
      refine TL.done ?_
      refine Thn.go ?_
      refine TC.ret ?_
      refine Thn.ret ?_
      refine Ends.ret [4, 5] rfl rfl ?_
      exact ⟨by rw [e1, e2]; rfl, (hc2.trans0 hc8).trans0 hc12⟩
    ·
      have e1 : Audit.textE r b = 0 := by rw [Audit.textE, if_neg h1, if_neg h2]
      have e2 : Audit.textS r b = Audit.bytesR r b := if_pos e1
      obtain ⟨m1, m2, m3, m4, m5, m6, m7, m8⟩ := Decidable.not_not.1 h1
      refine TC.skip ?_
      refine Thn.go ?_
      refine TC.seq ?_
      refine TC.region ?_
      refine TL.loadAgg (cl r) ag32 rfl rfl (fun j _ => by rw [((hb2.ch0 hc8).ch0 hc12).cell, Nat.zero_add, List.getElem?_toArray]) rfl ?_
      refine TL.move rfl rfl ?_
      refine TL.call can36 rfl rfl (fn36 r b (by omega) (by omega) (by omega) w10) (fun v14 w14 hr14 => ?_)
      obtain ⟨hv16, hc16⟩ := hr14
      refine TL.bytesToStr Try.underlying50 Try.underlying5 Try.underlying9 rfl (Rd.ofOwn hv16) rfl ?_
      refine TL.assign rfl rfl ?_
      refine TL.assign rfl rfl ?_
      refine TL.done ?_
      refine Thn.go ?_
      refine TC.ret ?_
      refine Ends.ret [4, 5] rfl rfl ?_
      exact ⟨by rw [e1, e2]; rfl, ((hc2.trans0 hc8).trans0 hc12).trans0 hc16⟩

theorem fn15 (a : Value) (l : List Audit.Record) (w : World) (ha : Rd w a 6 l.length (l.flatMap cl)) (hl : l.length ≤ 4096 → ∀ r ∈ l, r.hash.length ≤ 100000) : Rets Try.prog 15 #[a] w (fun v w' => v = .tuple #[.int .i64 (Audit.checkN l), .int .i64 (Audit.askedE l : Int)] ∧ Ch [] w w') := by
  refine Rets.of (n := 12) (vs := [_]) Try.func15 rfl rfl rfl ?_
  refine TC.seq ?_
  refine TC.region ?_
  refine TL.assign rfl rfl ?_
  refine TL.assign rfl rfl ?_
  refine TL.done ?_
  refine Thn.go ?_
  refine TC.seq ?_
  refine TC.seq ?_
  refine TC.region ?_
  refine TL.move rfl rfl ?_
  refine TL.call can24 rfl rfl (fn24 a l w ha hl) (fun v6 w6 hr6 => ?_)
  obtain ⟨rfl, hc6⟩ := hr6
  refine TL.assign rfl rfl ?_
  refine TL.done ?_
  refine Thn.go ?_
  refine TC.seq ?_
  refine TC.region ?_
  refine TL.move rfl rfl ?_
  refine TL.neq rfl rfl rfl ?_
  refine TL.done ?_
  refine Thn.go ?_
  refine TC.condP rfl (fun h1 => ?_) (fun h1 => ?_)
  ·
    refine TC.seq ?_
    refine TC.region ?_
    refine TL.move rfl rfl ?_
    refine TL.assign rfl rfl ?_
    refine TL.assign rfl rfl ?_
    refine TL.done ?_
    refine Thn.go ?_
    refine TC.ret ?_
    refine Thn.ret ?_
    refine Ends.ret [2, 3] rfl rfl ?_
    exact ⟨by rw [Audit.checkN, if_neg (by omega)]; rfl, hc6⟩
  ·
    have h0 : Audit.askedE l = 0 := by omega
    refine TC.skip ?_
    refine Thn.go ?_
    refine TC.seq ?_
    refine TC.region ?_
    refine TL.move rfl rfl ?_
    refine TL.call can25 rfl rfl (fn25 a l w6 (ha.ch0 hc6) (Audit.asked_zero h0).2) (fun v11 w11 hr11 => ?_)
    obtain ⟨rfl, hc11⟩ := hr11
    refine TL.assign rfl rfl ?_
    refine TL.assign rfl rfl ?_
    refine TL.done ?_
    refine Thn.go ?_
    refine TC.ret ?_
    refine Ends.ret [2, 3] rfl rfl ?_
    exact ⟨by rw [Audit.checkN, if_pos h0, h0]; rfl, hc6.trans0 hc11⟩

theorem fn16 (a : Value) (l : List Audit.Record) (w : World) (ha : Rd w a 6 l.length (l.flatMap cl)) (hl : l.length ≤ 4096 → ∀ r ∈ l, r.hash.length ≤ 100000) : Rets Try.prog 16 #[a] w (fun v w' => v = .tuple #[.int .i64 (Audit.checkN l), .int .i64 (Audit.askedE l : Int)] ∧ Ch [] w w') := by
  refine Rets.of (n := 12) (vs := [_]) Try.func16 rfl rfl rfl ?_
  refine TC.seq ?_
  refine TC.region ?_
  refine TL.assign rfl rfl ?_
  refine TL.assign rfl rfl ?_
  refine TL.done ?_
  refine Thn.go ?_
  refine TC.seq ?_
  refine TC.region ?_
  refine TL.move rfl rfl ?_
  refine TL.call can28 rfl rfl (fn28 a l w ha hl) (fun v6 w6 hr6 => ?_)
  obtain ⟨rfl, hc6⟩ := hr6
  refine TL.assign rfl rfl ?_
  refine TL.done ?_
  refine Thn.go ?_
  refine TC.seq ?_
  refine TC.seq ?_
  refine TC.region ?_
  refine TL.move rfl rfl ?_
  refine TL.neq rfl rfl rfl ?_
  refine TL.done ?_
  refine Thn.go ?_
  refine TC.condP rfl (fun h1 => ?_) (fun h1 => ?_)
  ·
    refine TC.seq ?_
    refine TC.region ?_
    refine TL.move rfl rfl ?_
    refine TL.assign rfl rfl ?_
    refine TL.assign rfl rfl ?_
    refine TL.done ?_
    refine Thn.go ?_
    refine TC.ret ?_
    refine Thn.ret ?_
    refine Ends.ret [2, 3] rfl rfl ?_
    exact ⟨by rw [Audit.checkN, if_neg (by omega)]; rfl, hc6⟩
  ·
    have h0 : Audit.askedE l = 0 := by omega
    refine TC.skip ?_
    refine Thn.go ?_
    refine TC.seq ?_
    refine TC.region ?_
    refine TL.move rfl rfl ?_
    refine TL.call can29 rfl rfl (fn29 a l w6 (ha.ch0 hc6) (Audit.asked_zero h0).2) (fun v11 w11 hr11 => ?_)
    obtain ⟨rfl, hc11⟩ := hr11
    refine TL.assign rfl rfl ?_
    refine TL.assign rfl rfl ?_
    refine TL.done ?_
    refine Thn.go ?_
    refine TC.ret ?_
    refine Ends.ret [2, 3] rfl rfl ?_
    exact ⟨by rw [Audit.checkN, if_pos h0, h0]; rfl, hc6.trans0 hc11⟩

theorem fn17 (v0 : Value) (l : List Audit.Record) (a c : Int) (w : World) (ha : Rd w v0 6 l.length (l.flatMap cl)) (hl : l.length ≤ 4096 → ∀ r ∈ l, r.hash.length ≤ 100000) : Rets Try.prog 17 #[v0, .int .i64 a, .int .i64 c] w (fun v w' => ∃ r, v = .tuple #[r, .int .i64 (Audit.rangeE l a c : Int)] ∧ Own w' w.heap.size 32 6 r (Audit.rangeL l a c).length ((Audit.rangeL l a c).flatMap cl) ∧ Ch [] w w') := by
  obtain ⟨ad, cc, rfl, _⟩ := ha.shape
  have hmx : l.length ≤ 9223372036854775807 := ha.nlt
  refine Rets.of (n := 36) (vs := [_, _, _]) Try.func17 rfl rfl rfl ?_
  refine TC.seq ?_
  refine TC.region ?_
  refine TL.assign rfl rfl ?_
  refine TL.assign rfl rfl ?_
  refine TL.done ?_
  refine Thn.go ?_
  refine TC.seq ?_
  refine TC.seq ?_
  refine TC.region ?_
  refine TL.move rfl rfl ?_
  refine TL.call can24 rfl rfl (fn24 _ l w ha hl) (fun v10 w10 hr10 => ?_)
  obtain ⟨rfl, hc10⟩ := hr10
  refine TL.assign rfl rfl ?_
  refine TL.done ?_
  refine Thn.go ?_
  refine TC.seq ?_
  refine TC.region ?_
  refine TL.move rfl rfl ?_
  refine TL.neq rfl rfl rfl ?_
  refine TL.done ?_
  refine Thn.go ?_
  refine TC.condP rfl (fun h1 => ?_) (fun h1 => ?_)
  ·
    have e1 : Audit.rangeE l a c = Audit.askedE l := if_pos (by omega)
    have e2 : Audit.rangeL l a c = [] := if_neg (by omega)
    refine TC.seq ?_
    refine TC.region ?_
    refine TL.move rfl rfl ?_
    refine TL.assign rfl rfl ?_
    refine TL.assign rfl rfl ?_
    refine TL.done ?_
    refine Thn.go ?_
    refine TC.ret ?_
    refine Thn.ret ?_
    refine Ends.ret [6, 7] rfl rfl ?_
    exact ⟨_, by rw [e1]; rfl, by rw [e2]; exact World.ownsRow_nil _ _ _ _, hc10⟩
  ·
    have h0 : Audit.askedE l = 0 := by omega
    have hlen := (Audit.asked_zero h0).1
    refine TC.skip ?_
    refine Thn.go ?_
    refine TC.seq ?_
    refine TC.regionBool (d := 19) (p := (a < 0 ∨ c < 0)) (fun K2 hK2 => ?_) ?_
    ·
      refine TL.move rfl rfl ?_
      refine TL.lss rfl rfl rfl ?_
      refine TL.em (fun e15 => ?_) (fun e15 => ?_)
      ·
        refine TL.move rfl rfl ?_
        refine TL.guardNo (d := 16) rfl rfl rfl rfl rfl ?_
        refine TL.guardNo (d := 16) rfl rfl rfl rfl rfl ?_
        refine TL.pickT rfl rfl rfl rfl ?_
        refine TL.done ?_
        refine hK2 _ ?_
        refine Le.here rfl (by first | exact decide_eq_true (by omega) | exact decide_eq_false (by omega) | exact decide_eq_decide.2 (by omega) | exact decide_eq_true (by grind) | exact decide_eq_false (by grind) | exact decide_eq_decide.2 (by grind)) ?_
        repeat (first | exact Le.refl _ | refine Le.skip rfl ?_)
      ·
        refine TL.move rfl rfl ?_
        refine TL.guardYes (d := 16) rfl rfl rfl ?_
        refine TL.move rfl rfl ?_
        refine TL.guardYes (d := 16) rfl rfl rfl ?_
        refine TL.lss rfl rfl rfl ?_
        refine TL.pickF rfl rfl rfl rfl ?_
        refine TL.done ?_
        refine hK2 _ ?_
        refine Le.here rfl (by first | exact decide_eq_true (by omega) | exact decide_eq_false (by omega) | exact decide_eq_decide.2 (by omega) | exact decide_eq_true (by grind) | exact decide_eq_false (by grind) | exact decide_eq_decide.2 (by grind)) ?_
        repeat (first | exact Le.refl _ | refine Le.skip rfl ?_)
    refine TC.condP rfl (fun h4 => ?_) (fun h4 => ?_)
    ·
      have e1 : Audit.rangeE l a c = 2 := by rw [Audit.rangeE, if_neg (by omega), if_pos h4]
      have e2 : Audit.rangeL l a c = [] := if_neg (by omega)
      refine TC.seq ?_
      refine TC.region ?_
      refine TL.assign rfl rfl ?_
      refine TL.assign rfl rfl ?_
      refine TL.done ?_
      refine Thn.go ?_
      refine TC.ret ?_
      refine Thn.ret ?_
      refine Ends.ret [6, 7] rfl rfl ?_
      exact ⟨_, by rw [e1]; rfl, by rw [e2]; exact World.ownsRow_nil _ _ _ _, hc10⟩
    ·
      have e1 : Audit.rangeE l a c = 0 := by rw [Audit.rangeE, if_neg (by omega), if_neg h4]
      have e2 : Audit.rangeL l a c = (l.drop a.toNat).take c.toNat := if_pos e1
      obtain ⟨i, hi⟩ : ∃ i, min a.toNat l.length = i := ⟨_, rfl⟩
      obtain ⟨m, hm⟩ : ∃ m, min c.toNat (l.length - i) = m := ⟨_, rfl⟩
      have e3 : (l.drop a.toNat).take c.toNat = (l.drop i).take m := by
        rcases Nat.lt_or_ge l.length a.toNat with h | h
        · rw [List.drop_eq_nil_of_le (by omega), List.drop_eq_nil_of_le (show l.length ≤ i by omega)]; simp
        · rw [show i = a.toNat by omega]
          rcases Nat.lt_or_ge c.toNat (l.length - i) with h' | h'
          · rw [show m = c.toNat by omega]
          · rw [List.take_of_length_le (by rw [List.length_drop]; omega), List.take_of_length_le (by rw [List.length_drop]; omega)]
      refine TC.skip ?_
      refine Thn.go ?_
      refine TC.seq ?_
      refine TC.region ?_
      refine TL.move rfl rfl ?_
      refine TL.move rfl rfl ?_
      refine TL.lenSlice Try.underlying22 rfl rfl ?_
      refine TL.min2 rfl rfl rfl ?_
      refine TL.top (v' := .int .i64 (i : Int)) (by congr 1; omega) ?_
      refine TL.assign rfl rfl ?_
      refine TL.done ?_
      refine Thn.go ?_
      refine TC.seq ?_
      refine TC.region ?_
      refine TL.move rfl rfl ?_
      refine TL.move rfl rfl ?_
      refine TL.move rfl rfl ?_
      refine TL.move rfl rfl ?_
      refine TL.move rfl rfl ?_
      refine TL.lenSlice Try.underlying22 rfl rfl ?_
      refine TL.move rfl rfl ?_
      refine TL.sub_i64 rfl rfl (by omega) (by omega) rfl ?_
      refine TL.min2 rfl rfl rfl ?_
      refine TL.top (v' := .int .i64 (m : Int)) (by congr 1; omega) ?_
      refine TL.add_i64 rfl rfl (by omega) (by omega) rfl ?_
      refine TL.top (v' := .int .i64 ((i + m : Nat) : Int)) (by congr 1) ?_
      have hcap := ha.cap
      refine TL.sliceLoHi (i) (i + m) sl22 rfl rfl rfl (by first | rfl | omega) (by first | rfl | omega) (by omega) (by omega) rfl ?_
      have hp := (ha.ch0 hc10).part (i := i) (j := i + m) (by omega) (by omega)
      rw [rows_drop cl_len, Nat.add_sub_cancel_left, rows_take cl_len] at hp
      rw [Nat.add_sub_cancel_left]
      refine TL.call can26 rfl rfl (fn26 _ ((l.drop i).take m) (by simp; omega) w10 (Rd.recs hp _ (by simp; omega) rfl)) (fun v35 w35 hr35 => ?_)
      obtain ⟨hv35, hc35⟩ := hr35
      refine TL.assign rfl rfl ?_
      refine TL.assign rfl rfl ?_
      refine TL.done ?_
      refine Thn.go ?_
      refine TC.ret ?_
      refine Ends.ret [6, 7] rfl rfl ?_
      exact ⟨_, by rw [e1]; rfl, by rw [e2, e3]; exact hv35.base hc10.size, hc10.trans0 hc35⟩

theorem fn18 (v0 : Value) (l : List Audit.Record) (a c : Int) (w : World) (ha : Rd w v0 6 l.length (l.flatMap cl)) (hl : l.length ≤ 4096 → ∀ r ∈ l, r.hash.length ≤ 100000) : Rets Try.prog 18 #[v0, .int .i64 a, .int .i64 c] w (fun v w' => ∃ r, v = .tuple #[r, .int .i64 (Audit.rangeE l a c : Int)] ∧ Own w' w.heap.size 32 6 r (Audit.rangeL l a c).length ((Audit.rangeL l a c).flatMap cl) ∧ Ch [] w w') := by
  obtain ⟨ad, cc, rfl, _⟩ := ha.shape
  have hmm : maxLen = 9223372036854775807 := rfl
  refine Rets.of (n := 43) (vs := [_, _, _]) Try.func18 rfl rfl rfl ?_
  refine TC.seq ?_
  refine TC.region ?_
  refine TL.assign rfl rfl ?_
  refine TL.assign rfl rfl ?_
  refine TL.done ?_
  refine Thn.go ?_
  refine TC.seq ?_
  refine TC.region ?_
  refine TL.move rfl rfl ?_
  refine TL.call can28 rfl rfl (fn28 _ l w ha hl) (fun v12 w12 hr12 => ?_)
  obtain ⟨rfl, hc12⟩ := hr12
  refine TL.assign rfl rfl ?_
  refine TL.done ?_
  refine Thn.go ?_
  refine TC.seq ?_
  refine TC.seq ?_
  refine TC.region ?_
  refine TL.move rfl rfl ?_
  refine TL.neq rfl rfl rfl ?_
  refine TL.done ?_
  refine Thn.go ?_
  refine TC.condP rfl (fun h1 => ?_) (fun h1 => ?_)
  ·
    have e1 : Audit.rangeE l a c = Audit.askedE l := if_pos (by omega)
    have e2 : Audit.rangeL l a c = [] := if_neg (by omega)
    refine TC.seq ?_
    refine TC.region ?_
    refine TL.move rfl rfl ?_
    refine TL.assign rfl rfl ?_
    refine TL.assign rfl rfl ?_
    refine TL.done ?_
    refine Thn.go ?_
    refine TC.ret ?_
    refine Thn.ret ?_
    refine Ends.ret [6, 7] rfl rfl ?_
    exact ⟨_, by rw [e1]; rfl, by rw [e2]; exact World.ownsRow_nil _ _ _ _, hc12⟩
  ·
    have h0 : Audit.askedE l = 0 := by omega
    have hlen := (Audit.asked_zero h0).1
    refine TC.skip ?_
    refine Thn.go ?_
    refine TC.seq ?_
    refine TC.regionBool (d := 21) (p := (a < 0 ∨ c < 0)) (fun K2 hK2 => ?_) ?_
    ·
      refine TL.move rfl rfl ?_
      refine TL.lss rfl rfl rfl ?_
      refine TL.em (fun e17 => ?_) (fun e17 => ?_)
      ·
        refine TL.move rfl rfl ?_
        refine TL.guardNo (d := 18) rfl rfl rfl rfl rfl ?_
        refine TL.guardNo (d := 18) rfl rfl rfl rfl rfl ?_
        refine TL.pickT rfl rfl rfl rfl ?_
        refine TL.done ?_
        refine hK2 _ ?_
        refine Le.here rfl (by first | exact decide_eq_true (by omega) | exact decide_eq_false (by omega) | exact decide_eq_decide.2 (by omega) | exact decide_eq_true (by grind) | exact decide_eq_false (by grind) | exact decide_eq_decide.2 (by grind)) ?_
        repeat (first | exact Le.refl _ | refine Le.skip rfl ?_)
      ·
        refine TL.move rfl rfl ?_
        refine TL.guardYes (d := 18) rfl rfl rfl ?_
        refine TL.move rfl rfl ?_
        refine TL.guardYes (d := 18) rfl rfl rfl ?_
        refine TL.lss rfl rfl rfl ?_
        refine TL.pickF rfl rfl rfl rfl ?_
        refine TL.done ?_
        refine hK2 _ ?_
        refine Le.here rfl (by first | exact decide_eq_true (by omega) | exact decide_eq_false (by omega) | exact decide_eq_decide.2 (by omega) | exact decide_eq_true (by grind) | exact decide_eq_false (by grind) | exact decide_eq_decide.2 (by grind)) ?_
        repeat (first | exact Le.refl _ | refine Le.skip rfl ?_)
    refine TC.condP rfl (fun h4 => ?_) (fun h4 => ?_)
    ·
      have e1 : Audit.rangeE l a c = 2 := by rw [Audit.rangeE, if_neg (by omega), if_pos h4]
      have e2 : Audit.rangeL l a c = [] := if_neg (by omega)
      refine TC.seq ?_
      refine TC.region ?_
      refine TL.assign rfl rfl ?_
      refine TL.assign rfl rfl ?_
      refine TL.done ?_
      refine Thn.go ?_
      refine TC.ret ?_
      refine Thn.ret ?_
      refine Ends.ret [6, 7] rfl rfl ?_
      exact ⟨_, by rw [e1]; rfl, by rw [e2]; exact World.ownsRow_nil _ _ _ _, hc12⟩
    ·
      have e1 : Audit.rangeE l a c = 0 := by rw [Audit.rangeE, if_neg (by omega), if_neg h4]
      have e2 : Audit.rangeL l a c = (l.drop a.toNat).take c.toNat := if_pos e1
      refine TC.skip ?_
      refine Thn.go ?_
      refine TC.seq ?_
      refine TC.region ?_
      refine TL.assign rfl rfl ?_
      refine TL.done ?_
      refine Thn.go ?_
      refine TC.seq ?_
      refine TC.seq ?_
      refine TC.region ?_
      refine TL.move rfl rfl ?_
      refine TL.assign rfl rfl ?_
      refine TL.done ?_
      refine Thn.go ?_
      refine TC.block ?_
      refine TC.loop2 (fun (k : Nat) (v : Value) => [(0, .slice ad l.length cc), (2, .int .i64 c), (9, v), (10, .int .i64 (a + (k : Int)))]) (fun k v w' => k ≤ c.toNat ∧ (k = 0 ∨ a.toNat + k ≤ l.length) ∧ Own w' w12.heap.size 32 6 v k (((l.drop a.toNat).take k).flatMap cl) ∧ Ch [] w12 w') (fun k _ => l.length - k) 0 (.slice none 0 0) (by refine ⟨rfl, rfl, rfl, ?_, trivial⟩; show some (Value.int .i64 a) = some (Value.int .i64 (a + ((0 : Nat) : Int))); congr 2; omega) ⟨by omega, .inl rfl, World.ownsRow_nil _ _ _ _, Ch.refl _ _⟩ (fun k v w' hH => ?_)
      obtain ⟨hk, hk2, hown, hch⟩ := hH
      obtain ⟨a9, c9, rfl⟩ := hown.shape
      have z' := hch.size
      refine TC.seq ?_
      refine TC.regionBool (d := 32) (p := (a + (k : Int) < (l.length : Int) ∧ (k : Int) < c)) (fun K5 hK5 => ?_) ?_
      ·
        refine TL.move rfl rfl ?_
        refine TL.move rfl rfl ?_
        refine TL.lenSlice Try.underlying22 rfl rfl ?_
        refine TL.lss rfl rfl rfl ?_
        refine TL.em (fun e26 => ?_) (fun e26 => ?_)
        ·
          refine TL.move rfl rfl ?_
          refine TL.guardYes (d := 27) rfl rfl rfl ?_
          refine TL.move rfl rfl ?_
          refine TL.guardYes (d := 27) rfl rfl rfl ?_
          refine TL.lenSlice Try.underlying22 rfl rfl ?_
          refine TL.guardYes (d := 27) rfl rfl rfl ?_
          refine TL.move rfl rfl ?_
          refine TL.guardYes (d := 27) rfl rfl rfl ?_
          refine TL.lss rfl rfl rfl ?_
          refine TL.pickT rfl rfl rfl rfl ?_
          refine TL.done ?_
          refine hK5 _ ?_
          refine Le.here rfl (by first | exact decide_eq_true (by omega) | exact decide_eq_false (by omega) | exact decide_eq_decide.2 (by omega) | exact decide_eq_true (by grind) | exact decide_eq_false (by grind) | exact decide_eq_decide.2 (by grind)) ?_
          repeat (first | exact Le.refl _ | refine Le.skip rfl ?_)
        ·
          refine TL.move rfl rfl ?_
          refine TL.guardNo (d := 27) rfl rfl rfl rfl rfl ?_
          refine TL.guardNo (d := 27) rfl rfl rfl rfl rfl ?_
          refine TL.guardNo (d := 27) rfl rfl rfl rfl rfl ?_
          refine TL.guardNo (d := 27) rfl rfl rfl rfl rfl ?_
          refine TL.pickF rfl rfl rfl rfl ?_
          refine TL.done ?_
          refine hK5 _ ?_
          refine Le.here rfl (by first | exact decide_eq_true (by omega) | exact decide_eq_false (by omega) | exact decide_eq_decide.2 (by omega) | exact decide_eq_true (by grind) | exact decide_eq_false (by grind) | exact decide_eq_decide.2 (by grind)) ?_
          repeat (first | exact Le.refl _ | refine Le.skip rfl ?_)
      refine TC.condP rfl (fun h7 => ?_) (fun h7 => ?_)
      ·
        have hil : a.toNat + k < l.length := by omega
        obtain ⟨b1, o1, rfl, hce⟩ := recAt ((ha.ch0 hc12).ch0 hch) hil
        refine TC.skip ?_
        refine Thn.go ?_
        refine TC.seq ?_
        refine TC.block ?_
        refine TC.region ?_
        refine TL.move rfl rfl ?_
        refine TL.move rfl rfl ?_
        refine TL.move rfl rfl ?_
        refine TL.indexAddr (a.toNat + k) sl22 rfl rfl (by first | rfl | omega) (by omega) rfl ?_
        refine TL.loadAgg (cl (Audit.rec l (a.toNat + k))) ag32 rfl rfl (fun j hj => hce j hj) rfl ?_
        refine TL.buildSlice [.tmp 39] sl22 rfl rfl rfl (by decide) (by first | simp [Value.cells]; done | simp [Value.cells, cl_len]; done) rfl (fun w40 hb40 hc40 hz40 => ?_)
        refine TL.append sl22 rfl rfl rfl (hown.ch0 hc40) (News.ofRd Try.underlying22 (recOne hb40) (rows_one _)) (by omega) (by omega) (by omega) (fun v41 w41 hv41 hc41 _ => ?_)
        refine TL.assign rfl rfl ?_
        refine TL.done ?_
        refine Blk.go ?_
        refine Thn.go ?_
        refine TC.region ?_
        refine TL.move rfl rfl ?_
        refine TL.add_i64 rfl rfl (by omega) (by omega) rfl ?_
        refine TL.top (v' := .int .i64 (a + ((k + 1 : Nat) : Int))) (by congr 1; omega) ?_
        refine TL.assign rfl rfl ?_
        refine TL.done ?_
        refine Lp.go ((k + 1, v41)) (by repeat (first | exact trivial | refine ⟨rfl, ?_⟩)) ?_ (by first | omega | (dsimp only; omega))
        refine ⟨by show k + 1 ≤ _; omega, .inr (by show a.toNat + (k + 1) ≤ _; omega), ?_, (hown.ch0 hc40).thenCh (hch.trans0 hc40) hc41⟩
        show Own w41 _ 32 6 v41 (k + 1) (((l.drop a.toNat).take (k + 1)).flatMap cl)
        have e : (l.drop a.toNat).take (k + 1) = (l.drop a.toNat).take k ++ [Audit.rec l (a.toNat + k)] := by
          rw [List.take_add_one, List.getElem?_drop, List.getElem?_eq_getElem hil, Audit.rec_eq hil]; rfl
        rw [e, List.flatMap_append]
        exact hv41
      ·
        have e3 : (l.drop a.toNat).take c.toNat = (l.drop a.toNat).take k := by
          rcases Nat.lt_or_ge k c.toNat with h | h
          · rw [List.take_of_length_le (by rw [List.length_drop]; omega), List.take_of_length_le (by rw [List.length_drop]; omega)]
          · rw [show k = c.toNat by omega]
        have e4 : ((l.drop a.toNat).take k).length = k := by rw [List.length_take, List.length_drop]; omega
        refine TC.exit ?_
        refine Thn.exit ?_
        refine Lp.exit ?_
        refine Blk.hit ?_
        refine Thn.go ?_
        refine TC.seq ?_
        refine TC.region ?_
        refine TL.move rfl rfl ?_
        refine TL.assign rfl rfl ?_
        refine TL.assign rfl rfl ?_
        refine TL.done ?_
        refine Thn.go ?_
        refine TC.ret ?_
        refine Ends.ret [6, 7] rfl rfl ?_
        exact ⟨_, by rw [e1]; rfl, by rw [e2, e3, e4]; exact hown.base hc12.size, hc12.trans0 hch⟩

theorem fn19 (a : Value) (l : List Audit.Record) (w : World) (ha : Rd w a 6 l.length (l.flatMap cl)) (hl : l.length ≤ 4096 → ∀ r ∈ l, r.hash.length ≤ 100000) : Rets Try.prog 19 #[a] w (fun v w' => v = .tuple #[str (Audit.headS l), .int .i64 (Audit.askedE l : Int)] ∧ Ch [] w w') := by
  obtain ⟨ad, c, rfl, _⟩ := ha.shape
  have hmx : l.length ≤ 9223372036854775807 := ha.nlt
  refine Rets.of (n := 20) (vs := [_]) Try.func19 rfl rfl rfl ?_
  refine TC.seq ?_
  refine TC.region ?_
  refine TL.assign rfl rfl ?_
  refine TL.assign rfl rfl ?_
  refine TL.done ?_
  refine Thn.go ?_
  refine TC.seq ?_
  refine TC.seq ?_
  refine TC.region ?_
  refine TL.move rfl rfl ?_
  refine TL.call can24 rfl rfl (fn24 _ l w ha hl) (fun v6 w6 hr6 => ?_)
  obtain ⟨rfl, hc6⟩ := hr6
  refine TL.assign rfl rfl ?_
  refine TL.done ?_
  refine Thn.go ?_
  refine TC.seq ?_
  refine TC.region ?_
  refine TL.move rfl rfl ?_
  refine TL.neq rfl rfl rfl ?_
  refine TL.done ?_
  refine Thn.go ?_
  refine TC.condP rfl (fun h1 => ?_) (fun h1 => ?_)
  ·
    refine TC.seq ?_
    refine TC.region ?_
    refine TL.move rfl rfl ?_
    refine TL.assign rfl rfl ?_
    refine TL.assign rfl rfl ?_
    refine TL.done ?_
    refine Thn.go ?_
    refine TC.ret ?_
    refine Thn.ret ?_
    refine Ends.ret [2, 3] rfl rfl ?_
    exact ⟨by rw [Audit.headS, if_neg (by omega)]; rfl, hc6⟩
  ·
    have h0 : Audit.askedE l = 0 := by omega
    have hh : Audit.headS l = Audit.before l l.length := if_pos h0
    refine TC.skip ?_
    refine Thn.go ?_
    refine TC.seq ?_
    refine TC.seq ?_
    refine TC.region ?_
    refine TL.move rfl rfl ?_
    refine TL.lenSlice Try.underlying22 rfl rfl ?_
    refine TL.eql rfl rfl rfl ?_
    refine TL.done ?_
    refine Thn.go ?_
    refine TC.condP rfl (fun h2 => ?_) (fun h2 => ?_)
    ·
      have hl0 : l.length = 0 := by omega
      refine TC.seq ?_
      refine TC.region ?_
      refine TL.assign rfl rfl ?_
      refine TL.assign rfl rfl ?_
      refine TL.done ?_
      refine Thn.go ?_
      refine TC.ret ?_
      refine Thn.ret ?_
      refine Ends.ret [2, 3] rfl rfl ?_
      exact ⟨by rw [hh, h0, hl0]; rfl, hc6⟩
    ·
      obtain ⟨b1, o1, rfl, hce⟩ := recAt (i := l.length - 1) (ha.ch0 hc6) (by omega)
      have hbf : Audit.before l l.length = (Audit.rec l (l.length - 1)).hash := if_neg (by omega)
      refine TC.skip ?_
      refine Thn.go ?_
      refine TC.seq ?_
      refine TC.region ?_
      refine TL.move rfl rfl ?_
      refine TL.move rfl rfl ?_
      refine TL.lenSlice Try.underlying22 rfl rfl ?_
      refine TL.sub_i64 rfl rfl (by omega) (by omega) rfl ?_
      refine TL.indexAddr (l.length - 1) sl22 rfl rfl (by first | rfl | omega) (by omega) rfl ?_
      refine TL.fieldAddr fd32k5 rfl rfl ?_
      refine TL.load pl9 rfl ((show _ = some (str (Audit.rec l (l.length - 1)).hash) from hce 5 (by decide))) rfl ?_
      refine TL.assign rfl rfl ?_
      refine TL.assign rfl rfl ?_
      refine TL.done ?_
      refine Thn.go ?_
      refine TC.ret ?_
      refine Ends.ret [2, 3] rfl rfl ?_
      exact ⟨by rw [hh, h0, hbf]; rfl, hc6⟩

theorem fn20 (a : Value) (l : List Audit.Record) (w : World) (ha : Rd w a 6 l.length (l.flatMap cl)) (hl : l.length ≤ 4096 → ∀ r ∈ l, r.hash.length ≤ 100000) : Rets Try.prog 20 #[a] w (fun v w' => v = .tuple #[str (Audit.headS l), .int .i64 (Audit.askedE l : Int)] ∧ Ch [] w w') := by
  obtain ⟨ad, c, rfl, _⟩ := ha.shape
  have hmx : l.length ≤ 9223372036854775807 := ha.nlt
  refine Rets.of (n := 20) (vs := [_]) Try.func20 rfl rfl rfl ?_
  refine TC.seq ?_
  refine TC.region ?_
  refine TL.assign rfl rfl ?_
  refine TL.assign rfl rfl ?_
  refine TL.done ?_
  refine Thn.go ?_
  refine TC.seq ?_
  refine TC.region ?_
  refine TL.move rfl rfl ?_
  refine TL.call can28 rfl rfl (fn28 _ l w ha hl) (fun v6 w6 hr6 => ?_)
  obtain ⟨rfl, hc6⟩ := hr6
  refine TL.assign rfl rfl ?_
  refine TL.done ?_
  refine Thn.go ?_
  refine TC.seq ?_
  refine TC.seq ?_
  refine TC.region ?_
  refine TL.move rfl rfl ?_
  refine TL.neq rfl rfl rfl ?_
  refine TL.done ?_
  refine Thn.go ?_
  refine TC.condP rfl (fun h1 => ?_) (fun h1 => ?_)
  ·
    refine TC.seq ?_
    refine TC.region ?_
    refine TL.move rfl rfl ?_
    refine TL.assign rfl rfl ?_
    refine TL.assign rfl rfl ?_
    refine TL.done ?_
    refine Thn.go ?_
    refine TC.ret ?_
    refine Thn.ret ?_
    refine Ends.ret [2, 3] rfl rfl ?_
    exact ⟨by rw [Audit.headS, if_neg (by omega)]; rfl, hc6⟩
  ·
    have h0 : Audit.askedE l = 0 := by omega
    have hh : Audit.headS l = Audit.before l l.length := if_pos h0
    refine TC.skip ?_
    refine Thn.go ?_
    refine TC.seq ?_
    refine TC.seq ?_
    refine TC.region ?_
    refine TL.move rfl rfl ?_
    refine TL.lenSlice Try.underlying22 rfl rfl ?_
    refine TL.eql rfl rfl rfl ?_
    refine TL.done ?_
    refine Thn.go ?_
    refine TC.condP rfl (fun h2 => ?_) (fun h2 => ?_)
    ·
      have hl0 : l.length = 0 := by omega
      refine TC.seq ?_
      refine TC.region ?_
      refine TL.assign rfl rfl ?_
      refine TL.assign rfl rfl ?_
      refine TL.done ?_
      refine Thn.go ?_
      refine TC.ret ?_
      refine Thn.ret ?_
      refine Ends.ret [2, 3] rfl rfl ?_
      exact ⟨by rw [hh, h0, hl0]; rfl, hc6⟩
    ·
      obtain ⟨b1, o1, rfl, hce⟩ := recAt (i := l.length - 1) (ha.ch0 hc6) (by omega)
      have hbf : Audit.before l l.length = (Audit.rec l (l.length - 1)).hash := if_neg (by omega)
      refine TC.skip ?_
      refine Thn.go ?_
      refine TC.seq ?_
      refine TC.region ?_
      refine TL.move rfl rfl ?_
      refine TL.move rfl rfl ?_
      refine TL.lenSlice Try.underlying22 rfl rfl ?_
      refine TL.sub_i64 rfl rfl (by omega) (by omega) rfl ?_
      refine TL.indexAddr (l.length - 1) sl22 rfl rfl (by first | rfl | omega) (by omega) rfl ?_
      refine TL.fieldAddr fd32k5 rfl rfl ?_
      refine TL.load pl9 rfl ((show _ = some (str (Audit.rec l (l.length - 1)).hash) from hce 5 (by decide))) rfl ?_
      refine TL.assign rfl rfl ?_
      refine TL.assign rfl rfl ?_
      refine TL.done ?_
      refine Thn.go ?_
      refine TC.ret ?_
      refine Ends.ret [2, 3] rfl rfl ?_
      exact ⟨by rw [hh, h0, hbf]; rfl, hc6⟩

