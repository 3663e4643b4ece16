/-
  Walks through the given program: each theorem fnN says what the call of function N of the translation hands back, for all arguments that its premises describe, and that nothing that was there has turned.
-/
import Derived.Test.YtkgckmdhlokjmaaDoorB6
namespace Go.Proofs.YtkgckmdhlokjmaaDoor
open Go.Lane
open Go.Key
open Go.RowKit (Below)
theorem can10 : Callable Tryd.prog 10 := ⟨Tryd.f10, Tryd.func10, by kernel_rfl, rfl⟩
theorem can12 : Callable Tryd.prog 12 := ⟨Tryd.f12, Tryd.func12, by kernel_rfl, rfl⟩
theorem can16 : Callable Tryd.prog 16 := ⟨Tryd.f16, Tryd.func16, by kernel_rfl, rfl⟩
/-- A part of a list, by its number. -/
def rec (l : List Part) (i : Nat) : Part := l.getD i default
theorem rec_eq {l : List Part} {i : Nat} (h : i < l.length) : rec l i = l[i] := by rw [rec, List.getD_eq_getElem?_getD, List.getElem?_eq_getElem h]; rfl
theorem recAt {ad : Option Addr} {c : Nat} {l : List Part} {w : World} (ha : Rd w (.slice ad l.length c) 3 l.length (l.flatMap cl)) {i : Nat} (h : i < l.length) : ∃ b o, ad = some ⟨b, o, none⟩ ∧ ∀ j, j < 3 → w.cell? ⟨b, o + i * 3 + j, none⟩ = (cl (rec l i))[j]? := by
  rw [rec_eq h]; exact Rd.elt cl_len (by decide) ha h
theorem rec_ext {l m : List Part} (h : l.length = m.length) (hg : ∀ i, i < l.length → rec l i = rec m i) : l = m := by
  apply List.ext_getElem h
  intro i h1 h2
  rw [← rec_eq h1, ← rec_eq h2]; exact hg i h1

/-- The key that shows that the code answers. -/
def aliveL : List Part := [wordP [99, 97, 115, 101], numP 7]
theorem alive_i : ∀ p ∈ aliveL, inI p.int := by
  intro p hp
  unfold inI
  simp [aliveL] at hp
  rcases hp with rfl | rfl <;> decide
theorem alive_e : makeE aliveL = 0 := by decide +kernel
theorem alive_s : makeS aliveL = [2, 99, 97, 115, 101, 0, 1, 1, 128, 0, 0, 0, 0, 0, 0, 7] := by decide +kernel
theorem alive_c : cutE [2, 99, 97, 115, 101, 0, 1, 1, 128, 0, 0, 0, 0, 0, 0, 7] = 0 ∧ cutL [2, 99, 97, 115, 101, 0, 1, 1, 128, 0, 0, 0, 0, 0, 0, 7] = aliveL := by
  have h := cut_made alive_i alive_e
  rw [alive_s] at h; exact h
/-- Parts in a row made on the spot. -/
theorem recsOf (l : List Part) {w : World} {b : Nat} {vs : List Value} {n : Nat} (hvs : vs = l.map (fun p => .agg (cl p).toArray)) (hn : l.length = n) {fr : Nat × Nat} (h : Has w b (flat vs).toArray 29 fr) (hl : n * 3 ≤ maxLen) : Rd w (.slice (some ⟨b, 0, none⟩) n n) 3 l.length (l.flatMap cl) := by
  subst hvs; subst hn
  have e : flat (l.map (fun p => Value.agg (cl p).toArray)) = l.flatMap cl := by
    rw [flat, List.flatMap_map]; rfl
  have := Rd.ofFlat (sz := 3) (m := l.length) h (by simp [Value.cells, cl_len]) (by simp) (by omega)
  rw [e] at this
  exact this
theorem fn12 (a b : Value) (l m : List Part) (w : World) (ha : Rd w a 3 l.length (l.flatMap cl)) (hb : Rd w b 3 m.length (m.flatMap cl)) : Rets Tryd.prog 12 #[a, b] w (fun v w' => v = .bool (decide (l = m)) ∧ Ch [] w w') := by
  obtain ⟨ad, c, rfl, _⟩ := ha.shape
  obtain ⟨bd, d, rfl, _⟩ := hb.shape
  have hmx : l.length ≤ 9223372036854775807 := ha.nlt
  refine Rets.of (n := 26) (vs := [_, _]) Tryd.func12 rfl rfl rfl ?_
  refine TC.seq ?_
  refine TC.region ?_
  refine TL.assign rfl rfl ?_
  refine TL.done ?_
  refine Thn.go ?_
  refine TC.seq ?_
  refine TC.seq ?_
  refine TC.region ?_
  refine TL.move rfl rfl ?_
  refine TL.lenSlice Tryd.underlying22 rfl rfl ?_
  refine TL.move rfl rfl ?_
  refine TL.lenSlice Tryd.underlying22 rfl rfl ?_
  refine TL.neq rfl rfl rfl ?_
  refine TL.done ?_
  refine Thn.go ?_
  refine TC.condP rfl (fun h1 => ?_) (fun h1 => ?_)
  ·
    refine TC.seq ?_
    refine TC.region ?_
    refine TL.assign rfl rfl ?_
    refine TL.done ?_
    refine Thn.go ?_
    refine TC.ret ?_
    refine Thn.ret ?_
    refine Ends.ret [4] rfl rfl ?_
    exact ⟨congrArg Value.bool (decide_eq_false (by rintro rfl; exact absurd rfl (by assumption))).symm, Ch.refl _ _⟩
  ·
    have hlm : l.length = m.length := by omega
    refine TC.skip ?_
    refine Thn.go ?_
    refine TC.seq ?_
    refine TC.seq ?_
    refine TC.region ?_
    refine TL.assign rfl rfl ?_
    refine TL.done ?_
    refine Thn.go ?_
    refine TC.block ?_
    refine TC.loop1 (fun (i : Nat) => [(0, .slice ad l.length c), (1, .slice bd m.length d), (5, .int .i64 (i : Int))]) (fun i w' => i ≤ l.length ∧ (∀ j, j < i → rec l j = rec m j) ∧ Ch [] w w') (fun i => l.length - i) 0 (by repeat (first | exact trivial | refine ⟨rfl, ?_⟩)) (⟨by omega, by intro j hj; omega, Ch.refl _ _⟩) (fun i w' hH => ?_)
    obtain ⟨hi, hg, hch⟩ := hH
    refine TC.seq ?_
    refine TC.seq ?_
    refine TC.region ?_
    refine TL.move rfl rfl ?_
    refine TL.move rfl rfl ?_
    refine TL.lenSlice Tryd.underlying22 rfl rfl ?_
    refine TL.lss rfl rfl rfl ?_
    refine TL.done ?_
    refine Thn.go ?_
    refine TC.condP rfl (fun h2 => ?_) (fun h2 => ?_)
    ·
      have hil : i < l.length := by omega
      obtain ⟨b1, o1, rfl, _⟩ := recAt ha hil
      obtain ⟨b2, o2, rfl, _⟩ := recAt hb (i := i) (by omega)
      have hce : ∀ w2, Ch [] w w2 → ∀ j, j < 3 → w2.cell? ⟨b1, o1 + i * 3 + j, none⟩ = (cl (rec l i))[j]? := fun w2 h2 => by obtain ⟨b', o', e, hh⟩ := recAt (ha.ch0 h2) hil; cases e; exact hh
      have hce2 : ∀ w2, Ch [] w w2 → ∀ j, j < 3 → w2.cell? ⟨b2, o2 + i * 3 + j, none⟩ = (cl (rec m i))[j]? := fun w2 h2 => by obtain ⟨b', o', e, hh⟩ := recAt (i := i) (hb.ch0 h2) (by omega); cases e; exact hh
      refine TC.skip ?_
      refine Thn.go ?_
      refine TC.seq ?_
      refine TC.block ?_
      refine TC.seq ?_
      refine TC.regionQ (fun w4 => Ch [] w w4) mixed0 (by kernel_rfl) (hch.trans0 (Ch.drew [] _)) ?_
      refine TQ.via rfl rfl rfl rfl (fun w2 hw2 => TL.move rfl rfl (TL.done ⟨rfl, rfl⟩)) ?_
      refine TQ.via rfl rfl rfl rfl (fun w2 hw2 => TL.move rfl rfl (TL.done ⟨rfl, rfl⟩)) ?_
      refine TQ.via rfl rfl rfl rfl (fun w2 hw2 => TL.indexAddr (i) sl22 rfl rfl (by first | rfl | omega) (by omega) rfl (TL.done ⟨rfl, rfl⟩)) ?_
      refine TQ.via rfl rfl rfl rfl (fun w2 hw2 => TL.loadAgg (cl (rec l i)) ag29 rfl rfl (fun j hj => hce _ hw2 j hj) rfl (TL.done ⟨rfl, rfl⟩)) ?_
      refine TQ.via rfl rfl rfl rfl (fun w2 hw2 => TL.move rfl rfl (TL.done ⟨rfl, rfl⟩)) ?_
      refine TQ.via rfl rfl rfl rfl (fun w2 hw2 => TL.move rfl rfl (TL.done ⟨rfl, rfl⟩)) ?_
      refine TQ.via rfl rfl rfl rfl (fun w2 hw2 => TL.indexAddr (i) sl22 rfl rfl (by first | rfl | omega) (by omega) rfl (TL.done ⟨rfl, rfl⟩)) ?_
      refine TQ.via rfl rfl rfl rfl (fun w2 hw2 => TL.loadAgg (cl (rec m i)) ag29 rfl rfl (fun j hj => hce2 _ hw2 j hj) rfl (TL.done ⟨rfl, rfl⟩)) ?_
      refine TQ.via rfl rfl rfl rfl (fun w2 hw2 => TL.neqAgg (p := rec l i = rec m i) gd29 (eqPart _ _ _) rfl rfl rfl (TL.done ⟨rfl, rfl⟩)) ?_
      refine TQ.done (fun w2 hw2 => ?_)
      refine Thn.go ?_
      refine TC.condP rfl (fun h3 => ?_) (fun h3 => ?_)
      ·
        refine TC.seq ?_
        refine TC.region ?_
        refine TL.assign rfl rfl ?_
        refine TL.done ?_
        refine Thn.go ?_
        refine TC.ret ?_
        refine Blk.ret ?_
        refine Thn.ret ?_
        refine Lp.ret ?_
        refine Blk.ret ?_
        refine Thn.ret ?_
        refine Ends.ret [4] rfl rfl ?_
        exact ⟨congrArg Value.bool (decide_eq_false (by rintro rfl; exact absurd rfl (by assumption))).symm, hw2⟩
      ·
        refine TC.skip ?_
        refine Blk.go ?_
        refine Thn.go ?_
        refine TC.region ?_
        refine TL.move rfl rfl ?_
        refine TL.add_i64 rfl rfl (by omega) (by omega) rfl ?_
        refine TL.assign rfl rfl ?_
        refine TL.done ?_
        refine Lp.go (i + 1) (by repeat (first | exact trivial | refine ⟨rfl, ?_⟩)) ?_ (by first | omega | (dsimp only; omega))
        refine ⟨by omega, fun j hj => ?_, hw2⟩
        rcases Nat.lt_or_ge j i with h | h
        · exact hg j h
        · rw [show j = i by omega]; exact Decidable.not_not.1 (by assumption)
    ·
      refine TC.exit ?_
      refine Thn.exit ?_
      refine Lp.exit ?_
      refine Blk.hit ?_
      refine Thn.go ?_
      refine TC.seq ?_
      refine TC.region ?_
      refine TL.assign rfl rfl ?_
      refine TL.done ?_
      refine Thn.go ?_
      refine TC.ret ?_
      refine Ends.ret [4] rfl rfl ?_
      exact ⟨congrArg Value.bool (decide_eq_true (rec_ext hlm (fun j hj => hg j (by omega)))).symm, hch⟩

theorem fn9 (w : World) (h : Sh w) : Rets Tryd.prog 9 #[] w (fun v w' => v = .bool true ∧ Ch [] w w') := by
  refine Rets.of (n := 34) (vs := []) Tryd.func9 rfl rfl rfl ?_
  refine TC.seq ?_
  refine TC.region ?_
  refine TL.assign rfl rfl ?_
  refine TL.done ?_
  refine Thn.go ?_
  refine TC.seq ?_
  refine TC.region ?_
  refine TL.call can14 rfl rfl (fn14 [99, 97, 115, 101] w) (fun v6 w6 hr6 => ?_)
  obtain ⟨rfl, hc6⟩ := hr6
  refine TL.call can13 rfl rfl (fn13 7 w6) (fun v7 w7 hr7 => ?_)
  obtain ⟨rfl, hc7⟩ := hr7
  refine TL.buildSlice [.tmp 6, .tmp 7] sl22 rfl rfl rfl (by decide) (by first | simp [Value.cells]; done | simp [Value.cells, cl_len]; done) rfl (fun w8 hb8 hc8 hz8 => ?_)
  have q8 : Ch [] w w8 := (hc6.trans0 hc7).trans0 hc8
  have hl8 : Rd w8 (.slice (some ⟨w7.heap.size, 0, none⟩) 2 2) 3 aliveL.length (aliveL.flatMap cl) := recsOf aliveL rfl rfl hb8 (by decide)
  refine TL.assign rfl rfl ?_
  refine TL.done ?_
  refine Thn.go ?_
  refine TC.seq ?_
  refine TC.region ?_
  refine TL.move rfl rfl ?_
  refine TL.call can10 rfl rfl (fn10 _ aliveL w8 (h.ch0 q8) alive_i hl8) (fun v11 w11 hr11 => ?_)
  rw [alive_e, alive_s] at hr11
  obtain ⟨rfl, hc11⟩ := hr11
  refine TL.move rfl rfl ?_
  refine TL.extract rfl rfl rfl ?_
  refine TL.extract rfl rfl rfl ?_
  refine TL.assign rfl rfl ?_
  refine TL.assign rfl rfl ?_
  refine TL.done ?_
  refine Thn.go ?_
  refine TC.seq ?_
  refine TC.region ?_
  refine TL.move rfl rfl ?_
  refine TL.call can16 rfl rfl (fn16 [2, 99, 97, 115, 101, 0, 1, 1, 128, 0, 0, 0, 0, 0, 0, 7] (by decide) w11 (h.ch0 (q8.trans0 hc11))) (fun v16 w16 hr16 => ?_)
  rw [alive_c.1, alive_c.2] at hr16
  obtain ⟨o, rfl, ho16, hc16⟩ := hr16
  refine TL.move rfl rfl ?_
  refine TL.extract rfl rfl rfl ?_
  refine TL.extract rfl rfl rfl ?_
  refine TL.assign rfl rfl ?_
  refine TL.assign rfl rfl ?_
  refine TL.done ?_
  refine Thn.go ?_
  refine TC.seq ?_
  refine TC.region ?_
  refine TL.move rfl rfl ?_
  refine TL.eql rfl rfl rfl ?_
  refine TL.yes (rfl) ?_
  refine TL.move rfl rfl ?_
  refine TL.guardYes (d := 21) rfl rfl rfl ?_
  refine TL.move rfl rfl ?_
  refine TL.guardYes (d := 21) rfl rfl rfl ?_
  refine TL.eqlStr rfl rfl rfl ?_
  refine TL.yes (rfl) ?_
  refine TL.pickT rfl rfl rfl rfl ?_
  refine TL.move rfl rfl ?_
  refine TL.guardYes (d := 25) rfl rfl rfl ?_
  refine TL.move rfl rfl ?_
  refine TL.guardYes (d := 25) rfl rfl rfl ?_
  refine TL.eql rfl rfl rfl ?_
  refine TL.yes (rfl) ?_
  refine TL.pickT rfl rfl rfl rfl ?_
  refine TL.move rfl rfl ?_
  refine TL.guardYes (d := 29) rfl rfl rfl ?_
  refine TL.move rfl rfl ?_
  refine TL.guardYes (d := 29) rfl rfl rfl ?_
  refine TL.move rfl rfl ?_
  refine TL.guardYes (d := 29) rfl rfl rfl ?_
  refine TL.call can12 rfl rfl (fn12 _ _ aliveL aliveL w16 ((hl8.ch0 hc11).ch0 hc16) (Rd.ofOwn ho16)) (fun v32 w32 hr32 => ?_)
  rw [decide_eq_true rfl] at hr32
  obtain ⟨rfl, hc32⟩ := hr32
  refine TL.pickT rfl rfl rfl rfl ?_
  refine TL.assign rfl rfl ?_
  refine TL.done ?_
  refine Thn.go ?_
  refine TC.ret ?_
  refine Ends.ret [0] rfl rfl ?_
  exact ⟨rfl, ((q8.trans0 hc11).trans0 hc16).trans0 hc32⟩

