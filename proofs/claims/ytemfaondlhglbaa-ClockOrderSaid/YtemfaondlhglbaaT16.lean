/-
  Walks through the given program: each theorem fnN says what the call of function N of the translation hands back, for all arguments that its premises describe, and that nothing that was there has turned.
-/
import Derived.Test.YtemfaondlhglbaaT15
namespace Go.Proofs.Ytemfaondlhglbaa
open Go.Lane
theorem can12 : Callable Try.prog 12 := ⟨Try.f12, Try.func12, by kernel_rfl, rfl⟩

theorem fn6 (a : Value) (l : List Tm.Timer) (w : World) (ha : Rd w a 5 l.length (l.flatMap cl)) : Rets Try.prog 6 #[a] w (fun v w' => v = .bool true ∧ Ch [] w w') := by
  obtain ⟨ad, c, rfl, _⟩ := ha.shape
  have hmm : maxLen = 9223372036854775807 := rfl
  refine Rets.of (n := 103) (vs := [_]) Try.func6 rfl rfl rfl ?_
  refine TC.seq ?_
  refine TC.region ?_
  refine TL.assign rfl rfl ?_
  refine TL.done ?_
  refine Thn.go ?_
  refine TC.seq ?_
  refine TC.region ?_
  refine TL.call can12 rfl rfl (fn12 w) (fun v16 w16 hr16 => ?_)
  obtain ⟨rfl, hc16⟩ := hr16
  refine TL.assign rfl rfl ?_
  refine TL.done ?_
  refine Thn.go ?_
  refine TC.seq ?_
  refine TC.region ?_
  refine TL.call can8 rfl rfl (fn8 w16) (fun v17 w17 hr17 => ?_)
  obtain ⟨rfl, hH17, hc17, hz17⟩ := hr17
  have q17 := hc16.trans0 hc17
  refine TL.assign rfl rfl ?_
  refine TL.done ?_
  refine Thn.go ?_
  refine TC.seq ?_
  refine TC.regionBool (d := 28) (p := (300 < l.length)) (fun K1 hK1 => ?_) ?_
  ·
    refine TL.move rfl rfl ?_
    refine TL.lenSlice Try.underlying25 rfl rfl ?_
    refine TL.gtr rfl rfl rfl ?_
    refine TL.em (fun e20 => ?_) (fun e20 => ?_)
    ·
      refine TL.move rfl rfl ?_
      refine TL.guardNo (d := 21) rfl rfl rfl rfl rfl ?_
      refine TL.guardNo (d := 21) rfl rfl rfl rfl rfl ?_
      refine TL.pickT rfl rfl rfl rfl ?_
      refine TL.move rfl rfl ?_
      refine TL.guardNo (d := 25) rfl rfl rfl rfl rfl ?_
      refine TL.guardNo (d := 25) rfl rfl rfl rfl rfl ?_
      refine TL.pickT rfl rfl rfl rfl ?_
      refine TL.done ?_
      refine hK1 _ ?_
      refine Le.here rfl (by first | exact decide_eq_true (by omega) | exact decide_eq_false (by omega) | exact decide_eq_decide.2 (by omega) | exact decide_eq_true (by grind) | exact decide_eq_false (by grind) | exact decide_eq_decide.2 (by grind)) ?_
      repeat (first | exact Le.refl _ | refine Le.skip rfl ?_)
    ·
      refine TL.move rfl rfl ?_
      refine TL.guardYes (d := 21) rfl rfl rfl ?_
      refine TL.move rfl rfl ?_
      refine TL.guardYes (d := 21) rfl rfl rfl ?_
      refine TL.not rfl rfl ?_
      refine TL.pickF rfl rfl rfl rfl ?_
      refine TL.move rfl rfl ?_
      refine TL.guardYes (d := 25) rfl rfl rfl ?_
      refine TL.move rfl rfl ?_
      refine TL.guardYes (d := 25) rfl rfl rfl ?_
      refine TL.eqlPtrNil Try.underlying23 rfl rfl rfl ?_
      refine TL.no (by simp) ?_
      refine TL.pickF rfl rfl rfl rfl ?_
      refine TL.done ?_
      refine hK1 _ ?_
      refine Le.here rfl (by first | exact decide_eq_true (by omega) | exact decide_eq_false (by omega) | exact decide_eq_decide.2 (by omega) | exact decide_eq_true (by grind) | exact decide_eq_false (by grind) | exact decide_eq_decide.2 (by grind)) ?_
      repeat (first | exact Le.refl _ | refine Le.skip rfl ?_)
  refine TC.condP rfl (fun h3 => ?_) (fun h3 => ?_)
  ·
    refine TC.seq ?_
    refine TC.region ?_
    refine TL.move rfl rfl ?_
    refine TL.move rfl rfl ?_
    refine TL.guardYes (d := 30) rfl rfl rfl ?_
    refine TL.move rfl rfl ?_
    refine TL.guardYes (d := 30) rfl rfl rfl ?_
    refine TL.neqPtrNil Try.underlying23 rfl rfl rfl ?_
    refine TL.yes (by simp) ?_
    refine TL.pickT rfl rfl rfl rfl ?_
    refine TL.assign rfl rfl ?_
    refine TL.done ?_
    refine Thn.go ?_
    refine TC.ret ?_
    refine Thn.ret ?_
    refine Ends.ret [2] rfl rfl ?_
    exact ⟨rfl, q17⟩
  ·
    have hl3 : l.length ≤ 300 := by omega
    refine TC.skip ?_
    refine Thn.go ?_
    refine TC.seq ?_
    refine TC.region ?_
    refine TL.assign rfl rfl ?_
    refine TL.done ?_
    refine Thn.go ?_
    refine TC.seq ?_
    refine TC.seq ?_
    refine TC.region ?_
    refine TL.assign rfl rfl ?_
    refine TL.done ?_
    refine Thn.go ?_
    refine TC.block ?_
    refine TC.loop2 (fun (i : Nat) (rv : Value) => [(0, .slice ad l.length c), (4, .pointer (some ⟨w16.heap.size, 0, none⟩)), (5, rv), (6, .int .i64 (i : Int))]) (fun i rv w' => i ≤ l.length ∧ (∃ R, Both w' w16.heap.size rv R) ∧ Ch [] w16 w') (fun i _ => l.length - i) 0 (.slice none 0 0) (by repeat (first | exact trivial | refine ⟨rfl, ?_⟩)) (⟨by omega, ⟨[], .slice none 0 0, [], hH17, World.ownsRow_nil _ _ _ _, Tm.Of.nil, Rd.nil _ _, fun k hk => by simp [Value.ownBlock] at hk⟩, hc17⟩) (fun i rv w' hHH => ?_)
    obtain ⟨hi, ⟨R, v, L, hH, ho, hof, hrd, hk⟩, hch⟩ := hHH
    obtain ⟨ra, rc, rfl, _⟩ := hrd.shape
    have hlR : L.length ≤ 256 := by rw [hof.len]; exact hof.many
    have hRm := hof.many
    have hHl := hH.lt
    have ha16 := ha.ch0 hc16
    refine TC.seq ?_
    refine TC.seq ?_
    refine TC.region ?_
    refine TL.move rfl rfl ?_
    refine TL.move rfl rfl ?_
    refine TL.lenSlice Try.underlying25 rfl rfl ?_
    refine TL.lss rfl rfl rfl ?_
    refine TL.done ?_
    refine Thn.go ?_
    refine TC.condP rfl (fun h4 => ?_) (fun h4 => ?_)
    ·
      have hil : i < l.length := by omega
      have hce : ∀ w2, Ch [] w16 w2 → ∃ b o, ad = some ⟨b, o, none⟩ ∧ ∀ j, j < 5 → w2.cell? ⟨b, o + i * 5 + j, none⟩ = (cl (Tm.rec l i))[j]? := fun w2 h2 => recAt (ha16.ch0 h2) hil
      obtain ⟨b1, o1, rfl, _⟩ := hce w' hch
      replace hce : ∀ w2, Ch [] w16 w2 → ∀ j, j < 5 → w2.cell? ⟨b1, o1 + i * 5 + j, none⟩ = (cl (Tm.rec l i))[j]? := fun w2 h2 => by obtain ⟨b', o', e, hh⟩ := hce w2 h2; cases e; exact hh
      obtain ⟨t, ht⟩ : ∃ t, Tm.rec l i = t := ⟨_, rfl⟩
      rw [ht] at hce
      refine TC.skip ?_
      refine Thn.go ?_
      refine TC.seq ?_
      refine TC.block ?_
      refine TC.seq ?_
      refine TC.region ?_
      refine TL.move rfl rfl ?_
      refine TL.move rfl rfl ?_
      refine TL.move rfl rfl ?_
      refine TL.indexAddr (i) sl25 rfl rfl (by first | rfl | omega) (by omega) rfl ?_
      refine TL.loadAgg (cl t) ag27 rfl rfl (fun j hj => hce w' hch j hj) rfl ?_
      refine TL.call can16 rfl rfl (fn16 _ R t w' hrd) (fun v46 w46 hr46 => ?_)
      obtain ⟨r46, rfl, hv46, hc46⟩ := hr46
      refine TL.move rfl rfl ?_
      refine TL.extract rfl rfl rfl ?_
      refine TL.extract rfl rfl rfl ?_
      refine TL.assign rfl rfl ?_
      refine TL.assign rfl rfl ?_
      refine TL.done ?_
      refine Thn.go ?_
      refine TC.seq ?_
      refine TC.seq ?_
      refine TC.region ?_
      refine TL.move rfl rfl ?_
      refine TL.move rfl rfl ?_
      refine TL.move rfl rfl ?_
      refine TL.indexAddr (i) sl25 rfl rfl (by first | rfl | omega) (by omega) rfl ?_
      refine TL.loadAgg (cl t) ag27 rfl rfl (fun j hj => hce w46 (hch.trans0 hc46) j hj) rfl ?_
      refine TL.call can11 rfl rfl (fn11 w16.heap.size v L t hlR w46 (hH.ch0 hc46) (ho.ch0 hc46) hof.heap) (fun v54 w54 hr54 => ?_)
      obtain ⟨rfl, v', L', hH54, ho54, hb54, hh, hpm, hnl, hc54⟩ := hr54
      obtain ⟨ea, el⟩ := hof.addE t
      have hof2 := hof.push' hpm hnl hh
      have q54 : Ch [] w16 w54 := chNew (hch.trans0 hc46) (ho.ch0 hc46) hc54 (Nat.le_refl _)
      refine TL.move rfl rfl ?_
      refine TL.neq rfl rfl rfl ?_
      refine TL.no (by rw [hof.pushE, ea]; simp) ?_
      refine TL.done ?_
      refine Thn.go ?_
      refine TC.condF rfl rfl ?_
      refine TC.skip ?_
      refine Thn.go ?_
      refine TC.seq ?_
      refine TC.region ?_
      refine TL.move rfl rfl ?_
      refine TL.eql rfl rfl rfl ?_
      refine TL.done ?_
      refine Thn.go ?_
      refine TC.condP rfl (fun h6 => ?_) (fun h6 => ?_)
      ·
        have h0 : Tm.pushE R t = 0 := by rw [← ea]; omega
        rw [el h0] at hv46
        have hk2 : ∀ k, r46.ownBlock = some k → w16.heap.size < k ∧ v.ownBlock ≠ some k ∧ k < w46.heap.size := fun k hk' => by
          have h1 := hv46.ge k hk'
          exact ⟨by omega, fun h => by have := ho.lt k h; omega, hv46.lt k hk'⟩
        refine TC.region ?_
        refine TL.move rfl rfl ?_
        refine TL.assign rfl rfl ?_
        refine TL.done ?_
        refine Blk.go ?_
        refine Thn.go ?_
        refine TC.region ?_
        refine TL.move rfl rfl ?_
        refine TL.add_i64 rfl rfl (by omega) (by omega) rfl ?_
        refine TL.assign rfl rfl ?_
        refine TL.done ?_
        refine Lp.go ((i + 1, r46)) (by repeat (first | exact trivial | refine ⟨rfl, ?_⟩)) ?_ (by first | omega | (dsimp only; omega))
        exact ⟨by show i + 1 ≤ l.length; omega, ⟨Tm.pushL R t, v', L', hH54, ho54, hof2, (Rd.ofOwn hv46).ch hc54 (Both.notin hk2), fun k hk' => ⟨(hk2 k hk').1, fun h => by rcases hb54 k h with h2 | h2; exact (hk2 k hk').2.1 h2; exact absurd (hk2 k hk').2.2 (by omega), Nat.lt_of_lt_of_le (hk2 k hk').2.2 hc54.size⟩⟩, q54⟩
      ·
        have h0 : ¬ Tm.pushE R t = 0 := by rw [← ea]; omega
        have eR : Tm.pushL R t = R := if_neg h0
        have hk2 : ∀ k, (Value.slice ra R.length rc).ownBlock = some k → w16.heap.size < k ∧ v.ownBlock ≠ some k ∧ k < w46.heap.size := fun k hk' => ⟨(hk k hk').1, (hk k hk').2.1, Nat.lt_of_lt_of_le (hk k hk').2.2 hc46.size⟩
        refine TC.skip ?_
        refine Blk.go ?_
        refine Thn.go ?_
        refine TC.region ?_
        refine TL.move rfl rfl ?_
        refine TL.add_i64 rfl rfl (by omega) (by omega) rfl ?_
        refine TL.assign rfl rfl ?_
        refine TL.done ?_
        refine Lp.go ((i + 1, .slice ra R.length rc)) (by repeat (first | exact trivial | refine ⟨rfl, ?_⟩)) ?_ (by first | omega | (dsimp only; omega))
        exact ⟨by show i + 1 ≤ l.length; omega, ⟨Tm.pushL R t, v', L', hH54, ho54, hof2, by rw [eR]; exact (hrd.ch0 hc46).ch hc54 (Both.notin hk2), fun k hk' => ⟨(hk2 k hk').1, fun h => by rcases hb54 k h with h2 | h2; exact (hk2 k hk').2.1 h2; exact absurd (hk2 k hk').2.2 (by omega), Nat.lt_of_lt_of_le (hk2 k hk').2.2 hc54.size⟩⟩, q54⟩
    ·
      have hchk := hof.check
      refine TC.exit ?_
      refine Thn.exit ?_
      refine Lp.exit ?_
      refine Blk.hit ?_
      refine Thn.go ?_
      refine TC.seq ?_
      refine TC.seq ?_
      refine TC.region ?_
      refine TL.assign rfl rfl ?_
      refine TL.done ?_
      refine Thn.go ?_
      refine TC.block ?_
      refine TC.loop1 (fun (i : Nat) => [(4, .pointer (some ⟨w16.heap.size, 0, none⟩)), (5, .slice ra R.length rc), (9, .int .i64 (i : Int))]) (fun i w2 => i ≤ R.length ∧ (∃ (v : Value) (L : List Tm.Timer), Has w2 w16.heap.size #[v, .bool true] 56 (0, 0) ∧ Own w2 (w16.heap.size + 1) 27 5 v L.length (L.flatMap cl) ∧ Tm.Of L (R.drop i) ∧ Rd w2 (.slice ra R.length rc) 5 R.length (R.flatMap cl) ∧ ∀ k, (Value.slice ra R.length rc).ownBlock = some k → w16.heap.size < k ∧ v.ownBlock ≠ some k ∧ k < w2.heap.size) ∧ Ch [] w16 w2) (fun i => R.length - i) 0 (by repeat (first | exact trivial | refine ⟨rfl, ?_⟩)) (⟨by omega, ⟨v, L, hH, ho, hof, hrd, hk⟩, hch⟩) (fun p w2 hH2 => ?_)
      obtain ⟨hp, ⟨v2, L2, hHb, hob, hofb, hrdb, hkb⟩, hchb⟩ := hH2
      have hlb : L2.length = R.length - p := by rw [hofb.len, List.length_drop]
      have hHlb := hHb.lt
      refine TC.seq ?_
      refine TC.seq ?_
      refine TC.region ?_
      refine TL.move rfl rfl ?_
      refine TL.move rfl rfl ?_
      refine TL.lenSlice Try.underlying25 rfl rfl ?_
      refine TL.lss rfl rfl rfl ?_
      refine TL.done ?_
      refine Thn.go ?_
      refine TC.condP rfl (fun h7 => ?_) (fun h7 => ?_)
      ·
        have hpl : p < R.length := by omega
        refine TC.skip ?_
        refine Thn.go ?_
        refine TC.seq ?_
        refine TC.block ?_
        refine TC.seq ?_
        refine TC.region ?_
        refine TL.move rfl rfl ?_
        refine TL.call can9 rfl rfl (fn9 w16.heap.size v2 L2 (by omega) w2 hHb hob hofb.heap) (fun v68 w68 hr68 => ?_)
        obtain ⟨ev, v', L', hH68, ho68, hb68, hh, hpm, hnl, hc68⟩ := hr68
        rw [show decide (0 < L2.length) = true from decide_eq_true (by omega)] at ev
        subst ev
        have hof2 := hofb.pop' hpm hnl hh
        have q68 : Ch [] w16 w68 := chNew hchb hob hc68 (Nat.le_refl _)
        have hrd68 := hrdb.ch hc68 (Both.notin hkb)
        have er : Tm.rec L2 0 = Tm.rec R p := by rw [hofb.root', Tm.rec_drop, Nat.add_zero]
        refine TL.move rfl rfl ?_
        refine TL.extract rfl rfl rfl ?_
        refine TL.extract rfl rfl rfl ?_
        refine TL.extract rfl rfl rfl ?_
        refine TL.alloc ze27 rfl (fun w10 hb10 hc10 hz10 => ?_)
        refine TL.store sz27 rfl rfl rfl hb10 (by simp [Value.cells]) (by simpa [Value.cells] using cl_one (Tm.rec L2 0)) (.inl rfl) (fun ws1 hbs1 hcs1 hzs1 => ?_)
        replace hbs1 : Has ws1 w68.heap.size (cl (Tm.rec L2 0)).toArray 27 (0, 0) := hbs1.setAll rfl
        have k1 : Ch [] w68 ws1 := hc10.then1 hcs1 (Nat.le_refl _)
        have hcr : ∀ w3, Ch [] ws1 w3 → ∃ b o, ra = some ⟨b, o, none⟩ ∧ ∀ j, j < 5 → w3.cell? ⟨b, o + p * 5 + j, none⟩ = (cl (Tm.rec R p))[j]? := fun w3 h3 => recAt ((hrd68.ch0 k1).ch0 h3) hpl
        obtain ⟨b2, o2, rfl, _⟩ := hcr ws1 (Ch.refl _ _)
        replace hcr : ∀ w3, Ch [] ws1 w3 → ∀ j, j < 5 → w3.cell? ⟨b2, o2 + p * 5 + j, none⟩ = (cl (Tm.rec R p))[j]? := fun w3 h3 => by obtain ⟨b', o', e, hh⟩ := hcr w3 h3; cases e; exact hh
        refine TL.assign rfl rfl ?_
        refine TL.assign rfl rfl ?_
        refine TL.done ?_
        refine Thn.go ?_
        refine TC.seq ?_
        refine TC.regionQ (fun w6 => Ch [] ws1 w6) mixed0 (by kernel_rfl) (Ch.drew [] _) ?_
        refine TQ.via rfl rfl rfl rfl (fun w2 hw2 => TL.move rfl rfl (TL.done ⟨rfl, rfl⟩)) ?_
        refine TQ.via rfl rfl rfl rfl (fun w2 hw2 => TL.neq rfl rfl rfl (TL.done ⟨rfl, rfl⟩)) ?_
        refine TQ.no (by simp) ?_
        refine TQ.via rfl rfl rfl rfl (fun w2 hw2 => TL.move rfl rfl (TL.done ⟨rfl, rfl⟩)) ?_
        refine TQ.guardYes (d := 74) rfl rfl rfl ?_
        refine TQ.via rfl rfl rfl rfl (fun w2 hw2 => TL.move rfl rfl (TL.done ⟨rfl, rfl⟩)) ?_
        refine TQ.guardYes (d := 74) rfl rfl rfl ?_
        refine TQ.via rfl rfl rfl rfl (fun w2 hw2 => TL.not rfl rfl (TL.done ⟨rfl, rfl⟩)) ?_
        refine TQ.via rfl rfl rfl rfl (fun w2 hw2 => TL.pickF rfl rfl rfl rfl (TL.done ⟨rfl, rfl⟩)) ?_
        refine TQ.via rfl rfl rfl rfl (fun w2 hw2 => TL.move rfl rfl (TL.done ⟨rfl, rfl⟩)) ?_
        refine TQ.guardYes (d := 78) rfl rfl rfl ?_
        refine TQ.via rfl rfl rfl rfl (fun w2 hw2 => TL.loadAgg (cl (Tm.rec L2 0)) ag27 rfl rfl (fun j _ => by rw [(hbs1.ch0 hw2).cell, Nat.zero_add, List.getElem?_toArray]) rfl (TL.done ⟨rfl, rfl⟩)) ?_
        refine TQ.guardYes (d := 78) rfl rfl rfl ?_
        refine TQ.via rfl rfl rfl rfl (fun w2 hw2 => TL.move rfl rfl (TL.done ⟨rfl, rfl⟩)) ?_
        refine TQ.guardYes (d := 78) rfl rfl rfl ?_
        refine TQ.via rfl rfl rfl rfl (fun w2 hw2 => TL.move rfl rfl (TL.done ⟨rfl, rfl⟩)) ?_
        refine TQ.guardYes (d := 78) rfl rfl rfl ?_
        refine TQ.via rfl rfl rfl rfl (fun w2 hw2 => TL.indexAddr (p) sl25 rfl rfl (by first | rfl | omega) (by omega) rfl (TL.done ⟨rfl, rfl⟩)) ?_
        refine TQ.guardYes (d := 78) rfl rfl rfl ?_
        refine TQ.via rfl rfl rfl rfl (fun w2 hw2 => TL.loadAgg (cl (Tm.rec R p)) ag27 rfl rfl (fun j hj => hcr _ hw2 j hj) rfl (TL.done ⟨rfl, rfl⟩)) ?_
        refine TQ.guardYes (d := 78) rfl rfl rfl ?_
        refine TQ.via rfl rfl rfl rfl (fun w2 hw2 => TL.neqAgg gd27 (eqTimer _ _ _) rfl rfl rfl (TL.done ⟨rfl, rfl⟩)) ?_
        refine TQ.no (by rw [er]; simp) ?_
        refine TQ.via rfl rfl rfl rfl (fun w2 hw2 => TL.pickF rfl rfl rfl rfl (TL.done ⟨rfl, rfl⟩)) ?_
        refine TQ.done (fun w2 hw2 => ?_)
        refine Thn.go ?_
        refine TC.condF rfl rfl ?_
        refine TC.skip ?_
        refine Blk.go ?_
        refine Thn.go ?_
        refine TC.region ?_
        refine TL.move rfl rfl ?_
        refine TL.add_i64 rfl rfl (by omega) (by omega) rfl ?_
        refine TL.assign rfl rfl ?_
        refine TL.done ?_
        refine Lp.go (p + 1) (by repeat (first | exact trivial | refine ⟨rfl, ?_⟩)) ?_ (by first | omega | (dsimp only; omega))
        exact ⟨by omega, ⟨v', L', hH68.ch0 (k1.trans0 hw2), ho68.ch0 (k1.trans0 hw2), by rw [List.drop_drop] at hof2; exact hof2, hrd68.ch0 (k1.trans0 hw2), fun k hk' => ⟨(hkb k hk').1, fun h => (hkb k hk').2.1 (hb68 k h), Nat.lt_of_lt_of_le (Nat.lt_of_lt_of_le (hkb k hk').2.2 hc68.size) (k1.trans0 hw2).size⟩⟩, q68.trans0 (k1.trans0 hw2)⟩
      ·
        have hpl : p = R.length := by omega
        refine TC.exit ?_
        refine Thn.exit ?_
        refine Lp.exit ?_
        refine Blk.hit ?_
        refine Thn.go ?_
        refine TC.seq ?_
        refine TC.region ?_
        refine TL.move rfl rfl ?_
        refine TL.call can9 rfl rfl (fn9 w16.heap.size v2 L2 (by omega) w2 hHb hob hofb.heap) (fun v88 w88 hr88 => ?_)
        obtain ⟨ev, v', L', hH68, ho68, hb68, hh, hpm, hnl, hc88⟩ := hr88
        rw [show decide (0 < L2.length) = false from decide_eq_false (by omega)] at ev
        subst ev
        have q88 : Ch [] w16 w88 := chNew hchb hob hc88 (Nat.le_refl _)
        have hrd88 := hrdb.ch hc88 (Both.notin hkb)
        refine TL.move rfl rfl ?_
        refine TL.extract rfl rfl rfl ?_
        refine TL.extract rfl rfl rfl ?_
        refine TL.extract rfl rfl rfl ?_
        refine TL.alloc ze27 rfl (fun w13 hb13 hc13 hz13 => ?_)
        refine TL.store sz27 rfl rfl rfl hb13 (by simp [Value.cells]) (by simpa [Value.cells] using cl_one (Tm.rec L2 0)) (.inl rfl) (fun ws2 hbs2 hcs2 hzs2 => ?_)
        have k2 : Ch [] w88 ws2 := hc13.then1 hcs2 (Nat.le_refl _)
        refine TL.assign rfl rfl ?_
        refine TL.assign rfl rfl ?_
        refine TL.done ?_
        refine Thn.go ?_
        refine TC.seq ?_
        refine TC.region ?_
        refine TL.move rfl rfl ?_
        refine TL.eql rfl rfl rfl ?_
        refine TL.yes (rfl) ?_
        refine TL.move rfl rfl ?_
        refine TL.guardYes (d := 94) rfl rfl rfl ?_
        refine TL.move rfl rfl ?_
        refine TL.guardYes (d := 94) rfl rfl rfl ?_
        refine TL.not rfl rfl ?_
        refine TL.pickT rfl rfl rfl rfl ?_
        refine TL.move rfl rfl ?_
        refine TL.guardYes (d := 98) rfl rfl rfl ?_
        refine TL.move rfl rfl ?_
        refine TL.guardYes (d := 98) rfl rfl rfl ?_
        refine TL.call can14 rfl rfl (fn14 _ R ws2 (hrd88.ch0 k2)) (fun v100 w100 hr100 => ?_)
        obtain ⟨rfl, hc100⟩ := hr100
        refine TL.guardYes (d := 98) rfl rfl rfl ?_
        refine TL.eql rfl rfl rfl ?_
        refine TL.yes (by rw [hchk]; rfl) ?_
        refine TL.pickT rfl rfl rfl rfl ?_
        refine TL.assign rfl rfl ?_
        refine TL.done ?_
        refine Thn.go ?_
        refine TC.ret ?_
        refine Ends.ret [2] rfl rfl ?_
        exact ⟨rfl, (hc16.trans0 q88).trans0 (k2.trans0 hc100)⟩

