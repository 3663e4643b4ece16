/-
  Walks through the given program: each theorem fnN says what the call of function N of the translation hands back, for all arguments that its premises describe, and that nothing that was there has turned.
-/
import Derived.Test.YtemfaondlhglbaaT14
namespace Go.Proofs.Ytemfaondlhglbaa
open Go.Lane
theorem can10 : Callable Try.prog 10 := ⟨Try.f10, Try.func10, by kernel_rfl, rfl⟩
theorem can11 : Callable Try.prog 11 := ⟨Try.f11, Try.func11, by kernel_rfl, rfl⟩
theorem can8 : Callable Try.prog 8 := ⟨Try.f8, Try.func8, by kernel_rfl, rfl⟩
theorem can9 : Callable Try.prog 9 := ⟨Try.f9, Try.func9, by kernel_rfl, rfl⟩
theorem fd29k0 : FieldT Try.prog 29 0 4 0 1 := ⟨_, _, Try.underlying29, rfl, rfl, rfl, by kernel_rfl, by decide⟩
theorem fd29k1 : FieldT Try.prog 29 1 27 1 5 := ⟨_, _, Try.underlying29, rfl, rfl, rfl, by kernel_rfl, by decide⟩
theorem sl22 : SliceT Try.prog 22 29 6 64 (.agg #[.bool false, .int .i64 0, .int .i64 0, .int .i64 0, .string ⟨#[]⟩, .string ⟨#[]⟩]) := SliceT.mk' Try.underlying22 (by kernel_rfl) rfl rfl
/-- The cells of a step. -/
def cl6 (p : Bool × Tm.Timer) : List Value := .bool (decide (p.1 = true)) :: cl p.2
theorem cl6_len (p : Bool × Tm.Timer) : (cl6 p).length = 6 := rfl
section
open Go.ChangeShapes Go.WideShapes Go.RowKit Go.Deep
variable {H : Type} {enc : TypeId × Value → H} {w : World} {held : Bool}
theorem step_in {m : Nat} {cs : List Value} {y : DataW H × List MemPlace} (h : DataW.trod enc Try.prog w 0 (fun _ => true) held m 29 cs = some y) : ∃ x : Bool × Tm.Timer, cs = cl6 x := by
  obtain ⟨xs, n, _, rfl, hl, hlen, hf⟩ := DataW.trod_struct Try.underlying29 h
  have cT : Try.prog.cellsOf 29 = 6 := by kernel_rfl
  have c4 : Try.prog.cellsOf 4 = 1 := by kernel_rfl
  have c27 : Try.prog.cellsOf 27 = 5 := by kernel_rfl
  rw [cT] at hl
  match cs, hl, xs, hlen with
  | [v0, v1, v2, v3, v4, v5], _, [y0, y1], _ =>
    have h0 : DataW.trod enc Try.prog w 0 (fun _ => true) held n 4 [v0] = some y0 := by simpa [c4] using hf 0 _ rfl
    have h1 : DataW.trod enc Try.prog w 0 (fun _ => true) held n 27 [v1, v2, v3, v4, v5] = some y1 := by simpa [c27] using hf 1 _ rfl
    obtain ⟨b, rfl⟩ := trod_boolv Try.underlying4 h0
    obtain ⟨t, ht⟩ := timer_in h1
    exact ⟨(b, t), by rw [ht]; simp [cl6]⟩
theorem steps_of {v : Value} {d : DataW H} {ps : List MemPlace} {r : Reach} {b0 : Nat} (hval : Value.okWide Try.prog w r b0 22 v) (hd : DataW.Trod enc Try.prog w 0 (fun _ => true) held 22 v d ps) : ∃ l : List (Bool × Tm.Timer), Rd w v 6 l.length (l.flatMap cl6) :=
  slice_of cl6 Try.underlying22 (by kernel_rfl) (by decide) cl6_len (fun _ _ _ h => step_in h) hval hd
end
/-- A heap and a row beside it: what the loops keep. -/
def Both (w : World) (H : Nat) (rv : Value) (R : List Tm.Timer) : Prop :=
  ∃ (v : Value) (L : List Tm.Timer), Has w H #[v, .bool true] 56 (0, 0) ∧ Own w (H + 1) 27 5 v L.length (L.flatMap cl) ∧ Tm.Of L R ∧ Rd w rv 5 R.length (R.flatMap cl) ∧ ∀ k, rv.ownBlock = some k → H < k ∧ v.ownBlock ≠ some k ∧ k < w.heap.size
theorem Both.notin {w : World} {H : Nat} {v rv : Value} (hk : ∀ k, rv.ownBlock = some k → H < k ∧ v.ownBlock ≠ some k ∧ k < w.heap.size) : ∀ k, rv.ownBlock = some k → k ∉ H :: blk v := fun k h hm => by
  obtain ⟨h1, h2, _⟩ := hk k h
  rcases List.mem_cons.1 hm with h3 | h3
  · omega
  · exact h2 (by simpa [blk] using h3)
theorem Both.ch0 {w w' : World} {H : Nat} {rv : Value} {R : List Tm.Timer} (h : Both w H rv R) (hc : Ch [] w w') : Both w' H rv R := by
  obtain ⟨v, L, h1, h2, h3, h4, h5⟩ := h
  exact ⟨v, L, h1.ch0 hc, h2.ch0 hc, h3, h4.ch0 hc, fun k hk => ⟨(h5 k hk).1, (h5 k hk).2.1, Nat.lt_of_lt_of_le (h5 k hk).2.2 hc.size⟩⟩
theorem chNew {w0 w w' : World} {H m : Nat} {v : Value} {cs : List Value} (h0 : Ch [] w0 w) (ho : Own w (H + 1) 27 5 v m cs) (hc : Ch (H :: blk v) w w') (hH : w0.heap.size ≤ H) : Ch [] w0 w' :=
  h0.thenS hc (fun x hx => by
    rcases List.mem_cons.1 hx with h | h
    · omega
    · have := ho.ge x (by simpa [blk] using h); omega)

theorem fn3 (a : Value) (l : List (Bool × Tm.Timer)) (w : World) (ha : Rd w a 6 l.length (l.flatMap cl6)) : Rets Try.prog 3 #[a] w (fun v w' => v = .bool true ∧ Ch [] w w') := by
  obtain ⟨ad, c, rfl, _⟩ := ha.shape
  have hmx : l.length ≤ 9223372036854775807 := ha.nlt
  have hmm : maxLen = 9223372036854775807 := rfl
  refine Rets.of (n := 82) (vs := [_]) Try.func3 rfl rfl rfl ?_
  refine TC.seq ?_
  refine TC.region ?_
  refine TL.assign rfl rfl ?_
  refine TL.done ?_
  refine Thn.go ?_
  refine TC.seq ?_
  refine TC.region ?_
  refine TL.call can8 rfl rfl (fn8 w) (fun v12 w12 hr12 => ?_)
  obtain ⟨rfl, hH12, hc12, hz12⟩ := hr12
  refine TL.assign rfl rfl ?_
  refine TL.done ?_
  refine Thn.go ?_
  refine TC.seq ?_
  refine TC.seq ?_
  refine TC.region ?_
  refine TL.move rfl rfl ?_
  refine TL.eqlPtrNil Try.underlying23 rfl rfl rfl ?_
  refine TL.done ?_
  refine Thn.go ?_
  refine TC.condF rfl (decide_eq_false (by simp)) ?_
  refine TC.skip ?_
  refine Thn.go ?_
  refine TC.seq ?_
  refine TC.region ?_
  refine TL.assign rfl rfl ?_
  refine TL.done ?_
  refine Thn.go ?_
  refine TC.seq ?_
  refine TC.seq ?_
  refine TC.region ?_
  refine TL.assign rfl rfl ?_
  refine TL.done ?_
  refine Thn.go ?_
  refine TC.block ?_
  refine TC.loop2 (fun (i : Nat) (rv : Value) => [(0, .slice ad l.length c), (3, .pointer (some ⟨w.heap.size, 0, none⟩)), (4, rv), (5, .int .i64 (i : Int))]) (fun i rv w' => i ≤ l.length ∧ (∃ R, Both w' w.heap.size rv R) ∧ Ch [] w w') (fun i _ => l.length - i) 0 (.slice none 0 0) (by repeat (first | exact trivial | refine ⟨rfl, ?_⟩)) (⟨by omega, ⟨[], .slice none 0 0, [], hH12, World.ownsRow_nil _ _ _ _, Tm.Of.nil, Rd.nil _ _, fun k hk => by simp [Value.ownBlock] at hk⟩, hc12⟩) (fun i rv w' hHH => ?_)
  obtain ⟨hi, ⟨R, v, L, hH, ho, hof, hrd, hk⟩, hch⟩ := hHH
  obtain ⟨ra, rc, rfl, _⟩ := hrd.shape
  have hlR : L.length ≤ 256 := by rw [hof.len]; exact hof.many
  have hRm := hof.many
  have hHl := hH.lt
  have hHw : w.heap.size < w'.heap.size := hHl
  refine TC.seq ?_
  refine TC.regionBool (d := 22) (p := (i < l.length ∧ i < 600)) (fun K2 hK2 => ?_) ?_
  ·
    refine TL.move rfl rfl ?_
    refine TL.move rfl rfl ?_
    refine TL.lenSlice Try.underlying22 rfl rfl ?_
    refine TL.lss rfl rfl rfl ?_
    refine TL.em (fun e18 => ?_) (fun e18 => ?_)
    ·
      refine TL.move rfl rfl ?_
      refine TL.guardYes (d := 19) rfl rfl rfl ?_
      refine TL.move rfl rfl ?_
      refine TL.guardYes (d := 19) rfl rfl rfl ?_
      refine TL.lss rfl rfl rfl ?_
      refine TL.pickT rfl rfl rfl rfl ?_
      refine TL.done ?_
      refine hK2 _ ?_
      refine Le.here rfl (by first | exact decide_eq_decide.2 (by omega) | exact decide_eq_false (by omega)) ?_
      repeat (first | exact Le.refl _ | refine Le.skip rfl ?_)
    ·
      refine TL.move rfl rfl ?_
      refine TL.guardNo (d := 19) rfl rfl rfl rfl rfl ?_
      refine TL.guardNo (d := 19) rfl rfl rfl rfl rfl ?_
      refine TL.pickF rfl rfl rfl rfl ?_
      refine TL.done ?_
      refine hK2 _ ?_
      refine Le.here rfl (by first | exact decide_eq_decide.2 (by omega) | exact decide_eq_false (by omega)) ?_
      repeat (first | exact Le.refl _ | refine Le.skip rfl ?_)
  refine TC.condP rfl (fun h4 => ?_) (fun h4 => ?_)
  ·
    have hil : i < l.length := by omega
    have hce : ∀ w2, Ch [] w w2 → ∃ b o, ad = some ⟨b, o, none⟩ ∧ ∀ j, j < 6 → w2.cell? ⟨b, o + i * 6 + j, none⟩ = (cl6 l[i])[j]? := fun w2 h2 => Rd.elt cl6_len (by decide) (ha.ch0 h2) hil
    obtain ⟨b1, o1, rfl, _⟩ := hce w' hch
    replace hce : ∀ w2, Ch [] w w2 → ∀ j, j < 6 → w2.cell? ⟨b1, o1 + i * 6 + j, none⟩ = (cl6 l[i])[j]? := fun w2 h2 => by obtain ⟨b', o', e, hh⟩ := hce w2 h2; cases e; exact hh
    refine TC.skip ?_
    refine Thn.go ?_
    refine TC.seq ?_
    refine TC.block ?_
    refine TC.seq ?_
    refine TC.seq ?_
    refine TC.region ?_
    refine TL.move rfl rfl ?_
    refine TL.move rfl rfl ?_
    refine TL.indexAddr (i) sl22 rfl rfl (by first | rfl | omega) (by omega) rfl ?_
    refine TL.fieldAddr fd29k0 rfl rfl ?_
    refine TL.load pl4 rfl ((show _ = some (Value.bool (decide (l[i].1 = true))) from hce w' hch 0 (by decide))) rfl ?_
    refine TL.done ?_
    refine Thn.go ?_
    refine TC.condP rfl (fun h5 => ?_) (fun h5 => ?_)
    ·
      refine TC.seq ?_
      refine TC.region ?_
      refine TL.move rfl rfl ?_
      refine TL.call can9 rfl rfl (fn9 w.heap.size v L hlR w' hH ho hof.heap) (fun v32 w32 hr32 => ?_)
      obtain ⟨rfl, v', L', hH32, ho32, hb32, hh, hpm, hnl, hc32⟩ := hr32
      have hof2 := hof.pop' hpm hnl hh
      have q32 : Ch [] w w32 := chNew hch ho hc32 (Nat.le_refl _)
      have hrd32 := hrd.ch hc32 (Both.notin hk)
      refine TL.move rfl rfl ?_
      refine TL.extract rfl rfl rfl ?_
      refine TL.extract rfl rfl rfl ?_
      refine TL.extract rfl rfl rfl ?_
      refine TL.alloc ze27 rfl (fun w6 hb6 hc6 hz6 => ?_)
      refine TL.store sz27 rfl rfl rfl hb6 (by simp [Value.cells]) (by simpa [Value.cells] using cl_one (Tm.rec L 0)) (.inl rfl) (fun ws1 hbs1 hcs1 hzs1 => ?_)
      replace hbs1 : Has ws1 w32.heap.size (cl (Tm.rec L 0)).toArray 27 (0, 0) := hbs1.setAll rfl
      have k1 : Ch [] w32 ws1 := hc6.then1 hcs1 (Nat.le_refl _)
      refine TL.assign rfl rfl ?_
      refine TL.assign rfl rfl ?_
      refine TL.done ?_
      refine Thn.go ?_
      refine TC.seq ?_
      refine TC.region ?_
      refine TL.buildRec [] [] (cl (Tm.rec [] 0)) rfl rfl (by kernel_rfl) rfl ?_
      refine TL.alloc ze27 rfl (fun w9 hb9 hc9 hz9 => ?_)
      refine TL.store sz27 rfl rfl rfl hb9 (by simp [Value.cells]) (by simpa [Value.cells] using cl_one (Tm.rec [] 0)) (.inl rfl) (fun ws2 hbs2 hcs2 hzs2 => ?_)
      replace hbs2 : Has ws2 ws1.heap.size (cl (Tm.rec [] 0)).toArray 27 (0, 0) := hbs2.setAll rfl
      have k2 : Ch [] ws1 ws2 := hc9.then1 hcs2 (Nat.le_refl _)
      have k3 : Ch [] w32 ws2 := k1.trans0 k2
      have z1 := hbs1.lt; have z2 := hbs2.lt
      refine TL.done ?_
      refine Thn.go ?_
      refine TC.cut0 ([(0, .slice (some ⟨b1, o1, none⟩) l.length c), (3, .pointer (some ⟨w.heap.size, 0, none⟩)), (4, .slice ra R.length rc), (5, .int .i64 (i : Int)), (6, .pointer (some ⟨w32.heap.size, 0, none⟩)), (7, .bool (decide (0 < L.length))), (8, .int .i64 0), (9, .pointer (some ⟨ws1.heap.size, 0, none⟩))]) (fun w2 => Has w2 ws1.heap.size (cl (Tm.rec R 0)).toArray 27 (0, 0) ∧ Has w2 w32.heap.size (cl (Tm.rec L 0)).toArray 27 (0, 0) ∧ Ch [] w32 w2) (fun K6 hK6 => ?_) (fun w2 hM => ?_)
      ·
        refine TC.seq ?_
        refine TC.region ?_
        refine TL.move rfl rfl ?_
        refine TL.lenSlice Try.underlying25 rfl rfl ?_
        refine TL.gtr rfl rfl rfl ?_
        refine TL.done ?_
        refine Thn.go ?_
        refine TC.condP rfl (fun h7 => ?_) (fun h7 => ?_)
        ·
          have hR0 : 0 < R.length := by omega
          obtain ⟨b4, o4, e4, hc4⟩ := recAt (i := 0) (hrd32.ch0 k3) hR0
          cases e4
          refine TC.region ?_
          refine TL.move rfl rfl ?_
          refine TL.indexAddr (0) sl25 rfl rfl (by first | rfl | omega) (by omega) rfl ?_
          refine TL.loadAgg (cl (Tm.rec R 0)) ag27 rfl rfl (fun j hj => hc4 j hj) rfl ?_
          refine TL.store sz27 rfl rfl rfl hbs2 (by simp [cl_len]) (by simpa [Value.cells] using cl_one (Tm.rec R 0)) (.inl rfl) (fun ws3 hbs3 hcs3 hzs3 => ?_)
          replace hbs3 : Has ws3 ws1.heap.size (cl (Tm.rec R 0)).toArray 27 (0, 0) := hbs3.setAll rfl
          refine TL.done ?_
          exact hK6  _ _ (by repeat (first | exact trivial | refine ⟨rfl, ?_⟩ | refine ⟨congrArg (fun b => some (Value.bool b)) (by first | exact (decide_eq_true (by grind)).symm | exact (decide_eq_false (by grind)).symm | exact decide_eq_decide.2 (by grind) | exact decide_eq_true (by grind) | exact decide_eq_false (by grind) | (exfalso; grind)), ?_⟩)) (⟨hbs3, (hbs1.ch0 k2).ch hcs3 (by simp; omega), k3.then1 hcs3 k1.size⟩)
        ·
          have eR : R = [] := List.eq_nil_of_length_eq_zero (by omega)
          refine TC.skip ?_
          exact hK6  _ _ (by repeat (first | exact trivial | refine ⟨rfl, ?_⟩ | refine ⟨congrArg (fun b => some (Value.bool b)) (by first | exact (decide_eq_true (by grind)).symm | exact (decide_eq_false (by grind)).symm | exact decide_eq_decide.2 (by grind) | exact decide_eq_true (by grind) | exact decide_eq_false (by grind) | (exfalso; grind)), ?_⟩)) (⟨by rw [eR]; exact hbs2, hbs1.ch0 k2, k3⟩)
      ·
        obtain ⟨hb9', hb6', km⟩ := hM
        refine TC.seq ?_
        refine TC.seq ?_
        refine TC.region ?_
        refine TL.move rfl rfl ?_
        refine TL.neq rfl rfl rfl ?_
        refine TL.no (by simp) ?_
        refine TL.move rfl rfl ?_
        refine TL.guardYes (d := 45) rfl rfl rfl ?_
        refine TL.move rfl rfl ?_
        refine TL.guardYes (d := 45) rfl rfl rfl ?_
        refine TL.move rfl rfl ?_
        refine TL.guardYes (d := 45) rfl rfl rfl ?_
        refine TL.lenSlice Try.underlying25 rfl rfl ?_
        refine TL.guardYes (d := 45) rfl rfl rfl ?_
        refine TL.gtr rfl rfl rfl ?_
        refine TL.guardYes (d := 45) rfl rfl rfl ?_
        refine TL.neqBool Try.underlying4 rfl rfl rfl ?_
        refine TL.no (by have := hof.len; simp; omega) ?_
        refine TL.pickF rfl rfl rfl rfl ?_
        refine TL.move rfl rfl ?_
        refine TL.guardYes (d := 52) rfl rfl rfl ?_
        refine TL.loadAgg (cl (Tm.rec L 0)) ag27 rfl rfl (fun j _ => by rw [hb6'.cell, Nat.zero_add, List.getElem?_toArray]) rfl ?_
        refine TL.guardYes (d := 52) rfl rfl rfl ?_
        refine TL.loadAgg (cl (Tm.rec R 0)) ag27 rfl rfl (fun j _ => by rw [hb9'.cell, Nat.zero_add, List.getElem?_toArray]) rfl ?_
        refine TL.guardYes (d := 52) rfl rfl rfl ?_
        refine TL.neqAgg gd27 (eqTimer _ _ _) rfl rfl rfl ?_
        refine TL.no (by rw [hof.root']; simp) ?_
        have hrdm := hrd32.ch0 km
        refine TL.pickF rfl rfl rfl rfl ?_
        refine TL.done ?_
        refine Thn.go ?_
        refine TC.condF rfl rfl ?_
        refine TC.skip ?_
        refine Thn.go ?_
        refine TC.cut1 (fun (r2 : Value) => [(0, .slice (some ⟨b1, o1, none⟩) l.length c), (3, .pointer (some ⟨w.heap.size, 0, none⟩)), (4, r2), (5, .int .i64 (i : Int))]) (fun r2 w4 => Rd w4 r2 5 (R.drop 1).length ((R.drop 1).flatMap cl) ∧ (∀ k, r2.ownBlock = some k → (Value.slice ra R.length rc).ownBlock = some k) ∧ w2 = w4) (fun K9 hK9 => ?_) (fun r2 w4 hM2 => ?_)
        ·
          refine TC.seq ?_
          refine TC.region ?_
          refine TL.move rfl rfl ?_
          refine TL.lenSlice Try.underlying25 rfl rfl ?_
          refine TL.gtr rfl rfl rfl ?_
          refine TL.done ?_
          refine Thn.go ?_
          refine TC.condP rfl (fun h10 => ?_) (fun h10 => ?_)
          ·
            have hR1 : 1 ≤ R.length := by omega
            refine TC.region ?_
            refine TL.move rfl rfl ?_
            refine TL.sliceFrom (1) sl25 rfl rfl (by first | rfl | omega) (by omega) rfl ?_
            refine TL.assign rfl rfl ?_
            refine TL.done ?_
            exact hK9 (.slice (adv ra rc 1 5) (R.length - 1) (rc - 1)) _ _ (by repeat (first | exact trivial | refine ⟨rfl, ?_⟩ | refine ⟨congrArg (fun b => some (Value.bool b)) (by first | exact (decide_eq_true (by grind)).symm | exact (decide_eq_false (by grind)).symm | exact decide_eq_decide.2 (by grind) | exact decide_eq_true (by grind) | exact decide_eq_false (by grind) | (exfalso; grind)), ?_⟩)) (⟨by have := suffixRd hrdm hR1; rwa [List.length_drop] at this ⊢, fun k hk => by rw [← blk_adv (i := 1) (sz := 5) (c := rc) (l' := R.length - 1) (c' := rc - 1)]; exact hk, rfl⟩)
          ·
            have eR2 : R = [] := List.eq_nil_of_length_eq_zero (by omega)
            have hd1 : R.drop 1 = R := by rw [eR2]; rfl
            refine TC.skip ?_
            exact hK9 (.slice ra R.length rc) _ _ (by repeat (first | exact trivial | refine ⟨rfl, ?_⟩ | refine ⟨congrArg (fun b => some (Value.bool b)) (by first | exact (decide_eq_true (by grind)).symm | exact (decide_eq_false (by grind)).symm | exact decide_eq_decide.2 (by grind) | exact decide_eq_true (by grind) | exact decide_eq_false (by grind) | (exfalso; grind)), ?_⟩)) (⟨by rw [hd1]; exact hrdm, fun k hk => hk, rfl⟩)
        ·
          obtain ⟨hr2, hk2, rfl⟩ := hM2
          refine TC.exit ?_
          refine Thn.exit ?_
          refine Blk.hit ?_
          refine Thn.go ?_
          refine TC.region ?_
          refine TL.move rfl rfl ?_
          refine TL.add_i64 rfl rfl (by omega) (by omega) rfl ?_
          refine TL.assign rfl rfl ?_
          refine TL.done ?_
          refine Lp.go ((i + 1, r2)) (by repeat (first | exact trivial | refine ⟨rfl, ?_⟩)) ?_ (by first | omega | (dsimp only; omega))
          exact ⟨by show i + 1 ≤ l.length; omega, ⟨R.drop 1, v', L', hH32.ch0 km, ho32.ch0 km, hof2, hr2, fun k hk' => ⟨(hk k (hk2 k hk')).1, fun h => (hk k (hk2 k hk')).2.1 (hb32 k h), Nat.lt_of_lt_of_le (Nat.lt_of_lt_of_le (hk k (hk2 k hk')).2.2 hc32.size) km.size⟩⟩, q32.trans0 km⟩
    ·
      refine TC.skip ?_
      refine Thn.go ?_
      refine TC.seq ?_
      refine TC.region ?_
      refine TL.move rfl rfl ?_
      refine TL.move rfl rfl ?_
      refine TL.move rfl rfl ?_
      refine TL.indexAddr (i) sl22 rfl rfl (by first | rfl | omega) (by omega) rfl ?_
      refine TL.fieldAddr fd29k1 rfl rfl ?_
      refine TL.loadAgg (cl l[i].2) ag27 rfl rfl (fun j hj => (congrArg (fun q => w'.cell? ⟨b1, q, none⟩) (by omega : o1 + i * 6 + 1 + j = o1 + i * 6 + (j + 1))).trans (hce w' hch (j + 1) (by omega))) rfl ?_
      refine TL.call can10 rfl rfl (fn10 _ R l[i].2 hRm w' hrd) (fun v69 w69 hr69 => ?_)
      obtain ⟨r2, rfl, hrd69, hk69, hk69', hc69⟩ := hr69
      refine TL.move rfl rfl ?_
      refine TL.extract rfl rfl rfl ?_
      refine TL.extract rfl rfl rfl ?_
      refine TL.assign rfl rfl ?_
      refine TL.assign rfl rfl ?_
      refine TL.done ?_
      refine Thn.go ?_
      refine TC.seq ?_
      refine TC.seq ?_
      refine TC.region ?_
      refine TL.move rfl rfl ?_
      refine TL.move rfl rfl ?_
      refine TL.move rfl rfl ?_
      refine TL.indexAddr (i) sl22 rfl rfl (by first | rfl | omega) (by omega) rfl ?_
      refine TL.fieldAddr fd29k1 rfl rfl ?_
      refine TL.loadAgg (cl l[i].2) ag27 rfl rfl (fun j hj => (congrArg (fun q => w69.cell? ⟨b1, q, none⟩) (by omega : o1 + i * 6 + 1 + j = o1 + i * 6 + (j + 1))).trans (hce w69 (hch.trans0 hc69) (j + 1) (by omega))) rfl ?_
      refine TL.call can11 rfl rfl (fn11 w.heap.size v L l[i].2 hlR w69 (hH.ch0 hc69) (ho.ch0 hc69) hof.heap) (fun v78 w78 hr78 => ?_)
      obtain ⟨rfl, v', L', hH78, ho78, hb78, hh, hpm, hnl, hc78⟩ := hr78
      have hk2 : ∀ k, r2.ownBlock = some k → w.heap.size < k ∧ v.ownBlock ≠ some k ∧ k < w69.heap.size := fun k hk' => by
        rcases hk69 k hk' with h1 | h1
        · exact ⟨(hk k h1).1, (hk k h1).2.1, Nat.lt_of_lt_of_le (hk k h1).2.2 hc69.size⟩
        · refine ⟨by omega, fun h => by have := ho.lt k h; omega, ?_⟩
          rcases hk69' k hk' with h2 | h2
          · exact h2
          · exact Nat.lt_of_lt_of_le (hk k h2).2.2 hc69.size
      refine TL.move rfl rfl ?_
      refine TL.neq rfl rfl rfl ?_
      refine TL.no (by rw [hof.pushE]; simp) ?_
      refine TL.done ?_
      refine Thn.go ?_
      refine TC.condF rfl rfl ?_
      refine TC.skip ?_
      refine Thn.go ?_
      refine TC.region ?_
      refine TL.move rfl rfl ?_
      refine TL.assign rfl rfl ?_
      refine TL.done ?_
      refine Blk.go ?_
      refine Thn.go ?_
      refine TC.region ?_
      refine TL.move rfl rfl ?_
      refine TL.add_i64 rfl rfl (by omega) (by omega) rfl ?_
      refine TL.assign rfl rfl ?_
      refine TL.done ?_
      refine Lp.go ((i + 1, r2)) (by repeat (first | exact trivial | refine ⟨rfl, ?_⟩)) ?_ (by first | omega | (dsimp only; omega))
      exact ⟨by show i + 1 ≤ l.length; omega, ⟨Tm.pushL R l[i].2, v', L', hH78, ho78, hof.push' hpm hnl hh, hrd69.ch hc78 (Both.notin hk2), fun k hk' => ⟨(hk2 k hk').1, fun h => by rcases hb78 k h with h2 | h2; exact (hk2 k hk').2.1 h2; exact absurd (hk2 k hk').2.2 (by omega), Nat.lt_of_lt_of_le (hk2 k hk').2.2 hc78.size⟩⟩, chNew (hch.trans0 hc69) (ho.ch0 hc69) hc78 (Nat.le_refl _)⟩
  ·
    refine TC.exit ?_
    refine Thn.exit ?_
    refine Lp.exit ?_
    refine Blk.hit ?_
    refine Thn.go ?_
    refine TC.seq ?_
    refine TC.region ?_
    refine TL.assign rfl rfl ?_
    refine TL.done ?_
    refine Thn.go ?_
    refine TC.ret ?_
    refine Ends.ret [2] rfl rfl ?_
    exact ⟨rfl, hch⟩

