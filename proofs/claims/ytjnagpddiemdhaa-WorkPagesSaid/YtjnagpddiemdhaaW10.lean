/-
  Walks through the given program: each theorem fnN says what the call of function N of the translation hands back, for all arguments that its premises describe, and that nothing that was there has turned.
-/
import Derived.Test.YtjnagpddiemdhaaW9
namespace Go.Proofs.Ytjnagpddiemdhaa
open Go.Lane
theorem can37 : Callable Try.prog 37 := ⟨Try.f37, Try.func37, by kernel_rfl, rfl⟩

theorem fn37 (a : Value) (l : List Wk.Work) (id : Int) (u : List UInt8) (fr to : UInt8) (w : World) (ha : Rd w a 6 l.length (l.flatMap cl)) : Rets Try.prog 37 #[a, .int .i64 id, str u, u8 fr, u8 to] w (fun v w' => ∃ r, v = .tuple #[r, .int .i64 (Wk.turnE l id u fr.toNat : Int)] ∧ Own w' w.heap.size 33 6 r (Wk.turnL l id u fr.toNat to).length ((Wk.turnL l id u fr.toNat to).flatMap cl) ∧ Ch [] w w') := by
  obtain ⟨ad, c, rfl, _⟩ := ha.shape
  have hmx : l.length ≤ 9223372036854775807 := ha.nlt
  have hmm : maxLen = 9223372036854775807 := rfl
  refine Rets.of (n := 67) (vs := [_, _, _, _, _]) Try.func37 rfl rfl rfl ?_
  refine TC.seq ?_
  refine TC.region ?_
  refine TL.assign rfl rfl ?_
  refine TL.assign rfl rfl ?_
  refine TL.done ?_
  refine Thn.go ?_
  refine TC.seq ?_
  refine TC.region ?_
  refine TL.move rfl rfl ?_
  refine TL.call can26 rfl rfl (fn26 _ l w ha) (fun v18 w18 hr18 => ?_)
  obtain ⟨rfl, hc18⟩ := hr18
  refine TL.assign rfl rfl ?_
  refine TL.done ?_
  refine Thn.go ?_
  refine TC.seq ?_
  refine TC.seq ?_
  refine TC.region ?_
  refine TL.move rfl rfl ?_
  refine TL.neq rfl rfl rfl ?_
  refine TL.done ?_
  refine Thn.go ?_
  refine TC.condP rfl (fun h1 => ?_) (fun h1 => ?_)
  ·
    obtain ⟨e1, e2⟩ := Wk.turn_check (id := id) (u := u) (fr := fr.toNat) (to := to) (show Wk.checkE l ≠ 0 by omega)
    refine TC.seq ?_
    refine TC.region ?_
    refine TL.move rfl rfl ?_
    refine TL.assign rfl rfl ?_
    refine TL.assign rfl rfl ?_
    refine TL.done ?_
    refine Thn.go ?_
    refine TC.ret ?_
    refine Thn.ret ?_
    refine Ends.ret [10, 11] rfl rfl ?_
    exact ⟨_, by rw [e1]; rfl, by rw [e2]; exact World.ownsRow_nil _ _ _ _, hc18⟩
  ·
    have h0 : Wk.checkE l = 0 := by omega
    obtain ⟨hlen, hgood⟩ := Wk.check_zero h0
    refine TC.skip ?_
    refine Thn.go ?_
    refine TC.seq ?_
    refine TC.seq ?_
    refine TC.region ?_
    refine TL.move rfl rfl ?_
    refine TL.call can31 rfl rfl (fn31 u w18) (fun v23 w23 hr23 => ?_)
    obtain ⟨rfl, rfl⟩ := hr23
    refine TL.notP rfl rfl ?_
    refine TL.done ?_
    refine Thn.go ?_
    refine TC.condP rfl (fun h2 => ?_) (fun h2 => ?_)
    ·
      obtain ⟨e1, e2⟩ := Wk.turn_name (id := id) (u := u) (fr := fr.toNat) (to := to) h0 (by assumption)
      refine TC.seq ?_
      refine TC.region ?_
      refine TL.assign rfl rfl ?_
      refine TL.assign rfl rfl ?_
      refine TL.done ?_
      refine Thn.go ?_
      refine TC.ret ?_
      refine Thn.ret ?_
      refine Ends.ret [10, 11] rfl rfl ?_
      exact ⟨_, by rw [e1]; rfl, by rw [e2]; exact World.ownsRow_nil _ _ _ _, hc18⟩
    ·
      have hn : Wk.named u := Decidable.not_not.1 (by assumption)
      refine TC.skip ?_
      refine Thn.go ?_
      refine TC.seq ?_
      refine TC.region ?_
      refine TL.assign rfl rfl ?_
      refine TL.done ?_
      refine Thn.go ?_
      refine TC.seq ?_
      refine TC.region ?_
      refine TL.assign rfl rfl ?_
      refine TL.done ?_
      refine Thn.go ?_
      refine TC.seq ?_
      refine TC.seq ?_
      refine TC.region ?_
      refine TL.assign rfl rfl ?_
      refine TL.done ?_
      refine Thn.go ?_
      refine TC.block ?_
      refine TC.loop3 (fun (i : Nat) (v : Value) (fd : Bool) => [(0, .slice ad l.length c), (1, .int .i64 id), (2, str u), (3, u8 fr), (4, u8 to), (13, v), (14, .bool (decide (fd = true))), (15, .int .i64 (i : Int))]) (fun i v fd w' => i ≤ l.length ∧ (fd = true ↔ ∃ j, j < i ∧ (Wk.rec l j).id = id) ∧ (∀ j, j < i → (Wk.rec l j).id = id → Wk.fit (Wk.rec l j) u fr.toNat) ∧ Own w' w23.heap.size 33 6 v i ((Wk.tmap (l.take i) id u to).flatMap cl) ∧ Ch [] w23 w') (fun i _ _ => l.length - i) 0 (.slice none 0 0) false (by repeat (first | exact trivial | refine ⟨rfl, ?_⟩)) (⟨by omega, by simp, by intro j hj; omega, World.ownsRow_nil _ _ _ _, Ch.refl _ _⟩) (fun i v fd w' hH => ?_)
      obtain ⟨hi, hfd, hg, hown, hch⟩ := hH
      refine TC.seq ?_
      refine TC.seq ?_
      refine TC.region ?_
      refine TL.move rfl rfl ?_
      refine TL.move rfl rfl ?_
      refine TL.lenSlice Try.underlying22 rfl rfl ?_
      refine TL.lss rfl rfl rfl ?_
      refine TL.done ?_
      refine Thn.go ?_
      refine TC.condP rfl (fun h3 => ?_) (fun h3 => ?_)
      ·
        have hil : i < l.length := by omega
        obtain ⟨b1, o1, rfl, hce⟩ := recAt ((ha.ch0 hc18).ch0 hch) hil
        obtain ⟨x, hx⟩ : ∃ x, Wk.rec l i = x := ⟨_, rfl⟩
        rw [hx] at hce
        have hfi : Wk.fit x u fr.toNat ↔ (x.state.toNat : Int) = (fr.toNat : Int) ∧ ((fr.toNat : Int) = 2 → x.owner = u) := by unfold Wk.fit; constructor <;> (rintro ⟨a1, a2⟩; exact ⟨by omega, fun h => a2 (by omega)⟩)
        refine TC.skip ?_
        refine Thn.go ?_
        refine TC.seq ?_
        refine TC.block ?_
        refine TC.seq ?_
        refine TC.region ?_
        refine TL.move rfl rfl ?_
        refine TL.move rfl rfl ?_
        refine TL.indexAddr (i) sl22 rfl rfl (by first | rfl | omega) (by omega) rfl ?_
        refine TL.loadAgg (cl x) ag33 rfl rfl (fun j hj => hce j hj) rfl ?_
        refine TL.alloc ze33 rfl (fun w16 hb16 hc16 hz16 => ?_)
        refine TL.store sz33 rfl rfl rfl hb16 (by simp [Value.cells]) (by simpa [Value.cells] using cl_one x) (.inl rfl) (fun ws1 hbs1 hcs1 hzs1 => ?_)
        replace hbs1 : Has ws1 w'.heap.size (cl x).toArray 33 (0, 0) := hbs1.setAll rfl
        have q1 : Ch [] w' ws1 := hc16.then1 hcs1 (Nat.le_refl _)
        refine TL.done ?_
        refine Thn.go ?_
        refine TC.cut1 (fun (fd2 : Bool) => [(0, .slice (some ⟨b1, o1, none⟩) l.length c), (1, .int .i64 id), (2, str u), (3, u8 fr), (4, u8 to), (13, v), (14, .bool (decide (fd2 = true))), (15, .int .i64 (i : Int)), (16, .pointer (some ⟨w'.heap.size, 0, none⟩))]) (fun fd2 w3 => (fd2 = true ↔ ∃ j, j < i + 1 ∧ (Wk.rec l j).id = id) ∧ (x.id = id → Wk.fit x u fr.toNat) ∧ Has w3 w'.heap.size (cl (if x.id = id then Wk.turn1 x u to else x)).toArray 33 (0, 0) ∧ Ch [] w' w3) (fun K4 hK4 => ?_) (fun fd2 w3 hM => ?_)
        ·
          refine TC.seq ?_
          refine TC.region ?_
          refine TL.fieldAddr fd33k0 rfl rfl ?_
          refine TL.load pl3 rfl (hbs1.cell _) rfl ?_
          refine TL.move rfl rfl ?_
          refine TL.eql rfl rfl rfl ?_
          refine TL.done ?_
          refine Thn.go ?_
          refine TC.condP rfl (fun h5 => ?_) (fun h5 => ?_)
          ·
            have hid : x.id = id := by assumption
            refine TC.seq ?_
            refine TC.region ?_
            refine TL.assign rfl rfl ?_
            refine TL.done ?_
            refine Thn.go ?_
            refine TC.seq ?_
            refine TC.regionBool (d := 52) (p := ¬ Wk.fit x u fr.toNat) (fun K6 hK6 => ?_) ?_
            ·
              refine TL.fieldAddr fd33k4 rfl rfl ?_
              refine TL.load pl5 rfl (hbs1.cell _) rfl ?_
              refine TL.move rfl rfl ?_
              refine TL.neq rfl rfl rfl ?_
              refine TL.em (fun e42 => ?_) (fun e42 => ?_)
              ·
                refine TL.move rfl rfl ?_
                refine TL.guardNo (d := 43) rfl rfl rfl rfl rfl ?_
                refine TL.guardNo (d := 43) rfl rfl rfl rfl rfl ?_
                refine TL.guardNo (d := 43) rfl rfl rfl rfl rfl ?_
                refine TL.guardUndef (d := 46) rfl rfl rfl rfl ?_
                refine TL.guardUndef (d := 46) rfl rfl rfl rfl ?_
                refine TL.guardUndef (d := 46) rfl rfl rfl rfl ?_
                refine TL.guardUndef (d := 46) rfl rfl rfl rfl ?_
                refine TL.guardNo (d := 43) rfl rfl rfl rfl rfl ?_
                refine TL.pickT rfl rfl rfl rfl ?_
                refine TL.done ?_
                refine hK6 _ ?_
                refine Le.here rfl (by first | exact decide_eq_true (by omega) | exact decide_eq_false (by omega) | exact decide_eq_decide.2 (by omega) | exact decide_eq_true (by grind) | exact decide_eq_false (by grind) | exact decide_eq_decide.2 (by grind)) ?_
                repeat (first | exact Le.refl _ | refine Le.skip rfl ?_)
              ·
                refine TL.move rfl rfl ?_
                refine TL.guardYes (d := 43) rfl rfl rfl ?_
                refine TL.move rfl rfl ?_
                refine TL.guardYes (d := 43) rfl rfl rfl ?_
                refine TL.eql rfl rfl rfl ?_
                refine TL.em (fun e45 => ?_) (fun e45 => ?_)
                ·
                  refine TL.guardYes (d := 43) rfl rfl rfl ?_
                  refine TL.move rfl rfl ?_
                  refine TL.guardYes (d := 46) rfl rfl rfl ?_
                  refine TL.fieldAddr fd33k5 rfl rfl ?_
                  refine TL.guardYes (d := 46) rfl rfl rfl ?_
                  refine TL.load pl9 rfl (hbs1.cell _) rfl ?_
                  refine TL.guardYes (d := 46) rfl rfl rfl ?_
                  refine TL.move rfl rfl ?_
                  refine TL.guardYes (d := 46) rfl rfl rfl ?_
                  refine TL.neqStr rfl rfl rfl ?_
                  refine TL.guardYes (d := 43) rfl rfl rfl ?_
                  refine TL.pickT rfl rfl rfl rfl ?_
                  refine TL.pickF rfl rfl rfl rfl ?_
                  refine TL.done ?_
                  refine hK6 _ ?_
                  refine Le.here rfl (by first | exact decide_eq_true (by omega) | exact decide_eq_false (by omega) | exact decide_eq_decide.2 (by omega) | exact decide_eq_true (by grind) | exact decide_eq_false (by grind) | exact decide_eq_decide.2 (by grind)) ?_
                  repeat (first | exact Le.refl _ | refine Le.skip rfl ?_)
                ·
                  refine TL.guardYes (d := 43) rfl rfl rfl ?_
                  refine TL.move rfl rfl ?_
                  refine TL.guardNo (d := 46) rfl rfl rfl rfl rfl ?_
                  refine TL.guardNo (d := 46) rfl rfl rfl rfl rfl ?_
                  refine TL.guardNo (d := 46) rfl rfl rfl rfl rfl ?_
                  refine TL.guardNo (d := 46) rfl rfl rfl rfl rfl ?_
                  refine TL.guardYes (d := 43) rfl rfl rfl ?_
                  refine TL.pickF rfl rfl rfl rfl ?_
                  refine TL.pickF rfl rfl rfl rfl ?_
                  refine TL.done ?_
                  refine hK6 _ ?_
                  refine Le.here rfl (by first | exact decide_eq_true (by omega) | exact decide_eq_false (by omega) | exact decide_eq_decide.2 (by omega) | exact decide_eq_true (by grind) | exact decide_eq_false (by grind) | exact decide_eq_decide.2 (by grind)) ?_
                  repeat (first | exact Le.refl _ | refine Le.skip rfl ?_)
            refine TC.condP rfl (fun h9 => ?_) (fun h9 => ?_)
            ·
              obtain ⟨e1, e2⟩ := Wk.turn_bad (fr := fr.toNat) (to := to) (u := u) h0 hn hil (hx ▸ hid) (fun j hj he => by have := Wk.ids_one hgood (i := j) (j := i) (by omega) hil (by rw [he, hx, hid]); omega) (by rw [hx]; assumption)
              refine TC.seq ?_
              refine TC.region ?_
              refine TL.assign rfl rfl ?_
              refine TL.assign rfl rfl ?_
              refine TL.done ?_
              refine Thn.go ?_
              refine TC.ret ?_
              refine Thn.ret ?_
              refine Thn.ret ?_
              refine Blk.ret ?_
              refine Thn.ret ?_
              refine Lp.ret ?_
              refine Blk.ret ?_
              refine Thn.ret ?_
              refine Ends.ret [10, 11] rfl rfl ?_
              exact ⟨_, by rw [e1]; rfl, by rw [e2]; exact World.ownsRow_nil _ _ _ _, (hc18.trans0 hch).trans0 q1⟩
            ·
              have hf : Wk.fit x u fr.toNat := Decidable.not_not.1 (by assumption)
              refine TC.skip ?_
              refine Thn.go ?_
              refine TC.seq ?_
              refine TC.region ?_
              refine TL.move rfl rfl ?_
              refine TL.fieldAddr fd33k4 rfl rfl ?_
              refine TL.store sz5 rfl rfl rfl hbs1 (by show 0 + 4 + 1 ≤ 6; omega) (by simp [Value.cells, u8, Value.oneCell']) (.inl rfl) (fun ws2 hbs2 hcs2 hzs2 => ?_)
              replace hbs2 : Has ws2 w'.heap.size (cl { x with state := to }).toArray 33 (0, 0) := hbs2
              refine TL.done ?_
              refine Thn.go ?_
              refine TC.seq ?_
              refine TC.region ?_
              refine TL.move rfl rfl ?_
              refine TL.fieldAddr fd33k5 rfl rfl ?_
              refine TL.store sz9 rfl rfl rfl hbs2 (by show 0 + 5 + 1 ≤ 6; omega) (by simp [Value.cells, str, Value.oneCell']) (.inl rfl) (fun ws3 hbs3 hcs3 hzs3 => ?_)
              replace hbs3 : Has ws3 w'.heap.size (cl { x with state := to, owner := u }).toArray 33 (0, 0) := hbs3
              have q3 : Ch [] w' ws3 := (q1.then1 hcs2 (Nat.le_refl _)).then1 hcs3 (Nat.le_refl _)
              refine TL.done ?_
              refine Thn.go ?_
              refine TC.seq ?_
              refine TC.region ?_
              refine TL.move rfl rfl ?_
              refine TL.eql rfl rfl rfl ?_
              refine TL.done ?_
              refine Thn.go ?_
              refine TC.condP rfl (fun h10 => ?_) (fun h10 => ?_)
              ·
                refine TC.region ?_
                refine TL.fieldAddr fd33k5 rfl rfl ?_
                refine TL.store sz9 rfl rfl rfl hbs3 (by show 0 + 5 + 1 ≤ 6; omega) (by simp [Value.cells, Value.oneCell']) (.inl rfl) (fun ws4 hbs4 hcs4 hzs4 => ?_)
                replace hbs4 : Has ws4 w'.heap.size (cl { x with state := to, owner := [] }).toArray 33 (0, 0) := hbs4
                refine TL.done ?_
                exact hK4 true _ _ (by repeat (first | exact trivial | refine ⟨rfl, ?_⟩ | refine ⟨congrArg (fun b => some (Value.bool b)) (by first | exact (decide_eq_true (by grind)).symm | exact (decide_eq_false (by grind)).symm | exact decide_eq_decide.2 (by grind) | exact decide_eq_true (by grind) | exact decide_eq_false (by grind) | (exfalso; grind)), ?_⟩)) (⟨⟨fun _ => ⟨i, by omega, by rw [hx, hid]⟩, fun _ => rfl⟩, fun _ => hf, by rw [if_pos hid, Wk.turn1, if_pos (by omega)]; exact hbs4, q3.then1 hcs4 (Nat.le_refl _)⟩)
              ·
                refine TC.skip ?_
                exact hK4 true _ _ (by repeat (first | exact trivial | refine ⟨rfl, ?_⟩ | refine ⟨congrArg (fun b => some (Value.bool b)) (by first | exact (decide_eq_true (by grind)).symm | exact (decide_eq_false (by grind)).symm | exact decide_eq_decide.2 (by grind) | exact decide_eq_true (by grind) | exact decide_eq_false (by grind) | (exfalso; grind)), ?_⟩)) (⟨⟨fun _ => ⟨i, by omega, by rw [hx, hid]⟩, fun _ => rfl⟩, fun _ => hf, by rw [if_pos hid, Wk.turn1, if_neg (by omega)]; exact hbs3, q3⟩)
          ·
            have hnid : ¬ x.id = id := by assumption
            refine TC.skip ?_
            exact hK4 fd _ _ (by repeat (first | exact trivial | refine ⟨rfl, ?_⟩ | refine ⟨congrArg (fun b => some (Value.bool b)) (by first | exact (decide_eq_true (by grind)).symm | exact (decide_eq_false (by grind)).symm | exact decide_eq_decide.2 (by grind) | exact decide_eq_true (by grind) | exact decide_eq_false (by grind) | (exfalso; grind)), ?_⟩)) (⟨hfd.trans ⟨fun ⟨j, a1, a2⟩ => ⟨j, by omega, a2⟩, fun ⟨j, a1, a2⟩ => ⟨j, by rcases Nat.lt_or_ge j i with h | h; exact h; (obtain rfl : j = i := by omega); rw [hx] at a2; exact absurd a2 hnid, a2⟩⟩, fun h => absurd h hnid, by rw [if_neg hnid]; exact hbs1, q1⟩)
        ·
          obtain ⟨hfd2, hfx, hb3, hc3⟩ := hM
          have z1 := hch.size; have z2 := hc3.size
          refine TC.region ?_
          refine TL.move rfl rfl ?_
          refine TL.loadAgg (cl (if x.id = id then Wk.turn1 x u to else x)) ag33 rfl rfl (fun j _ => by rw [hb3.cell, Nat.zero_add, List.getElem?_toArray]) rfl ?_
          refine TL.buildSlice [.tmp 61] sl22 rfl rfl rfl (by decide) (by first | simp [Value.cells]; done | simp [Value.cells, cl_len]; done) rfl (fun w62 hb62 hc62 hz62 => ?_)
          refine TL.append sl22 rfl rfl rfl ((hown.ch0 hc3).ch0 hc62) (News.ofRd Try.underlying22 (recOne hb62) (rows_one _)) (by omega) (by omega) (by omega) (fun v63 w63 hv63 hc63 _ => ?_)
          refine TL.assign rfl rfl ?_
          refine TL.done ?_
          refine Blk.go ?_
          refine Thn.go ?_
          refine TC.region ?_
          refine TL.move rfl rfl ?_
          refine TL.add_i64 rfl rfl (by omega) (by omega) rfl ?_
          refine TL.assign rfl rfl ?_
          refine TL.done ?_
          refine Lp.go ((i + 1, v63, fd2)) (by repeat (first | exact trivial | refine ⟨rfl, ?_⟩)) ?_ (by first | omega | (dsimp only; omega))
          refine ⟨by show i + 1 ≤ l.length; omega, hfd2, fun j hj he => ?_, ?_, ((hown.ch0 hc3).ch0 hc62).thenCh ((hch.trans0 hc3).trans0 hc62) hc63⟩
          · rcases Nat.lt_or_ge j i with h | h
            · exact hg j h he
            · obtain rfl : j = i := by have : j < i + 1 := hj; omega
              rw [hx] at he ⊢; exact hfx he
          · show Own w63 _ 33 6 v63 (i + 1) ((Wk.tmap (l.take (i + 1)) id u to).flatMap cl)
            rw [Wk.tmap_snoc id u to hil, hx, List.flatMap_append]; exact hv63
      ·
        have hil : i = l.length := by omega
        subst hil
        refine TC.exit ?_
        refine Thn.exit ?_
        refine Lp.exit ?_
        refine Blk.hit ?_
        refine Thn.go ?_
        refine TC.seq ?_
        refine TC.seq ?_
        refine TC.region ?_
        refine TL.move rfl rfl ?_
        refine TL.notP rfl rfl ?_
        refine TL.done ?_
        refine Thn.go ?_
        refine TC.condP rfl (fun h11 => ?_) (fun h11 => ?_)
        ·
          have hnf : fd = false := Bool.eq_false_iff.2 (by assumption)
          obtain ⟨e1, e2⟩ := Wk.turn_none (fr := fr.toNat) (to := to) (u := u) (id := id) h0 hn (fun j hj he => by have := hfd.2 ⟨j, hj, he⟩; rw [hnf] at this; cases this)
          refine TC.seq ?_
          refine TC.region ?_
          refine TL.assign rfl rfl ?_
          refine TL.assign rfl rfl ?_
          refine TL.done ?_
          refine Thn.go ?_
          refine TC.ret ?_
          refine Thn.ret ?_
          refine Ends.ret [10, 11] rfl rfl ?_
          exact ⟨_, by rw [e1]; rfl, by rw [e2]; exact World.ownsRow_nil _ _ _ _, hc18.trans0 hch⟩
        ·
          have hyf : fd = true := Decidable.not_not.1 (by assumption)
          obtain ⟨j, hj, he⟩ := hfd.1 hyf
          obtain ⟨e1, e2⟩ := Wk.turn_ok (fr := fr.toNat) (to := to) (u := u) (id := id) h0 hn hj he (fun k hk hke => by have := Wk.ids_one hgood (i := k) (j := j) (by omega) hj (by rw [he, hke]); omega) (hg j hj he)
          rw [List.take_length, Wk.tmap_set hgood hj id u to he] at hown
          refine TC.skip ?_
          refine Thn.go ?_
          refine TC.seq ?_
          refine TC.region ?_
          refine TL.move rfl rfl ?_
          refine TL.assign rfl rfl ?_
          refine TL.assign rfl rfl ?_
          refine TL.done ?_
          refine Thn.go ?_
          refine TC.ret ?_
          refine Ends.ret [10, 11] rfl rfl ?_
          exact ⟨_, by rw [e1]; rfl, by rw [e2, List.length_set]; exact hown.base hc18.size, hc18.trans0 hch⟩

theorem fn18 (a : Value) (l : List Wk.Work) (id : Int) (u : List UInt8) (w : World) (ha : Rd w a 6 l.length (l.flatMap cl)) : Rets Try.prog 18 #[a, .int .i64 id, str u] w (fun v w' => ∃ r, v = .tuple #[r, .int .i64 (Wk.turnE l id u 1 : Int)] ∧ Own w' w.heap.size 33 6 r (Wk.turnL l id u 1 2).length ((Wk.turnL l id u 1 2).flatMap cl) ∧ Ch [] w w') := by
  refine Rets.of (n := 19) (vs := [_, _, _]) Try.func18 rfl rfl rfl ?_
  refine TC.seq ?_
  refine TC.region ?_
  refine TL.assign rfl rfl ?_
  refine TL.assign rfl rfl ?_
  refine TL.done ?_
  refine Thn.go ?_
  refine TC.seq ?_
  refine TC.region ?_
  refine TL.move rfl rfl ?_
  refine TL.move rfl rfl ?_
  refine TL.move rfl rfl ?_
  refine TL.call can37 rfl rfl (fn37 _ l id u 1 2 w ha) (fun v14 w14 hr14 => ?_)
  obtain ⟨r14, rfl, hv14, hc14⟩ := hr14
  refine TL.move rfl rfl ?_
  refine TL.extract rfl rfl rfl ?_
  refine TL.extract rfl rfl rfl ?_
  refine TL.assign rfl rfl ?_
  refine TL.assign rfl rfl ?_
  refine TL.done ?_
  refine Thn.go ?_
  refine TC.seq ?_
  refine TC.region ?_
  refine TL.move rfl rfl ?_
  refine TL.move rfl rfl ?_
  refine TL.assign rfl rfl ?_
  refine TL.assign rfl rfl ?_
  refine TL.done ?_
  refine Thn.go ?_
  refine TC.ret ?_
  refine Ends.ret [6, 7] rfl rfl ?_
  exact ⟨_, rfl, hv14, hc14⟩

theorem fn20 (a : Value) (l : List Wk.Work) (id : Int) (u : List UInt8) (w : World) (ha : Rd w a 6 l.length (l.flatMap cl)) : Rets Try.prog 20 #[a, .int .i64 id, str u] w (fun v w' => ∃ r, v = .tuple #[r, .int .i64 (Wk.turnE l id u 2 : Int)] ∧ Own w' w.heap.size 33 6 r (Wk.turnL l id u 2 1).length ((Wk.turnL l id u 2 1).flatMap cl) ∧ Ch [] w w') := by
  refine Rets.of (n := 19) (vs := [_, _, _]) Try.func20 rfl rfl rfl ?_
  refine TC.seq ?_
  refine TC.region ?_
  refine TL.assign rfl rfl ?_
  refine TL.assign rfl rfl ?_
  refine TL.done ?_
  refine Thn.go ?_
  refine TC.seq ?_
  refine TC.region ?_
  refine TL.move rfl rfl ?_
  refine TL.move rfl rfl ?_
  refine TL.move rfl rfl ?_
  refine TL.call can37 rfl rfl (fn37 _ l id u 2 1 w ha) (fun v14 w14 hr14 => ?_)
  obtain ⟨r14, rfl, hv14, hc14⟩ := hr14
  refine TL.move rfl rfl ?_
  refine TL.extract rfl rfl rfl ?_
  refine TL.extract rfl rfl rfl ?_
  refine TL.assign rfl rfl ?_
  refine TL.assign rfl rfl ?_
  refine TL.done ?_
  refine Thn.go ?_
  refine TC.seq ?_
  refine TC.region ?_
  refine TL.move rfl rfl ?_
  refine TL.move rfl rfl ?_
  refine TL.assign rfl rfl ?_
  refine TL.assign rfl rfl ?_
  refine TL.done ?_
  refine Thn.go ?_
  refine TC.ret ?_
  refine Ends.ret [6, 7] rfl rfl ?_
  exact ⟨_, rfl, hv14, hc14⟩

theorem fn22 (a : Value) (l : List Wk.Work) (id : Int) (u : List UInt8) (w : World) (ha : Rd w a 6 l.length (l.flatMap cl)) : Rets Try.prog 22 #[a, .int .i64 id, str u] w (fun v w' => ∃ r, v = .tuple #[r, .int .i64 (Wk.turnE l id u 2 : Int)] ∧ Own w' w.heap.size 33 6 r (Wk.turnL l id u 2 3).length ((Wk.turnL l id u 2 3).flatMap cl) ∧ Ch [] w w') := by
  refine Rets.of (n := 19) (vs := [_, _, _]) Try.func22 rfl rfl rfl ?_
  refine TC.seq ?_
  refine TC.region ?_
  refine TL.assign rfl rfl ?_
  refine TL.assign rfl rfl ?_
  refine TL.done ?_
  refine Thn.go ?_
  refine TC.seq ?_
  refine TC.region ?_
  refine TL.move rfl rfl ?_
  refine TL.move rfl rfl ?_
  refine TL.move rfl rfl ?_
  refine TL.call can37 rfl rfl (fn37 _ l id u 2 3 w ha) (fun v14 w14 hr14 => ?_)
  obtain ⟨r14, rfl, hv14, hc14⟩ := hr14
  refine TL.move rfl rfl ?_
  refine TL.extract rfl rfl rfl ?_
  refine TL.extract rfl rfl rfl ?_
  refine TL.assign rfl rfl ?_
  refine TL.assign rfl rfl ?_
  refine TL.done ?_
  refine Thn.go ?_
  refine TC.seq ?_
  refine TC.region ?_
  refine TL.move rfl rfl ?_
  refine TL.move rfl rfl ?_
  refine TL.assign rfl rfl ?_
  refine TL.assign rfl rfl ?_
  refine TL.done ?_
  refine Thn.go ?_
  refine TC.ret ?_
  refine Ends.ret [6, 7] rfl rfl ?_
  exact ⟨_, rfl, hv14, hc14⟩

