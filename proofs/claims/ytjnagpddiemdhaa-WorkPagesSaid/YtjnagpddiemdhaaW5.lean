/-
  Walks through the given program: each theorem fnN says what the call of function N of the translation hands back, for all arguments that its premises describe, and that nothing that was there has turned.
-/
import Derived.Test.YtjnagpddiemdhaaW4
namespace Go.Proofs.Ytjnagpddiemdhaa
open Go.Lane
theorem can25 : Callable Try.prog 25 := ⟨Try.f25, Try.func25, by kernel_rfl, rfl⟩
theorem can26 : Callable Try.prog 26 := ⟨Try.f26, Try.func26, by kernel_rfl, rfl⟩
theorem can29 : Callable Try.prog 29 := ⟨Try.f29, Try.func29, by kernel_rfl, rfl⟩
theorem can30 : Callable Try.prog 30 := ⟨Try.f30, Try.func30, by kernel_rfl, rfl⟩
theorem can32 : Callable Try.prog 32 := ⟨Try.f32, Try.func32, by kernel_rfl, rfl⟩
def r77 : Wk.Work := ⟨77, 0, [], [], 0, []⟩

theorem fn8 (a : Value) (l : List Wk.Work) (hl : l.length ≤ 100000) (w : World) (ha : Rd w a 6 l.length (l.flatMap cl)) : Rets Try.prog 8 #[a] w (fun v w' => (∃ g c, v = .slice (some ⟨g, 0, none⟩) (l.length + 1) c) ∧ Own w' w.heap.size 33 6 v (l.length + 1) ((l ++ [r77]).flatMap cl) ∧ Ch [] w w') := by
  have hmm : maxLen = 9223372036854775807 := rfl
  refine Rets.of (n := 11) (vs := [_]) Try.func8 rfl rfl rfl ?_
  refine TC.seq ?_
  refine TC.region ?_
  refine TL.assign rfl rfl ?_
  refine TL.done ?_
  refine Thn.go ?_
  refine TC.seq ?_
  refine TC.region ?_
  refine TL.assign rfl rfl ?_
  refine TL.done ?_
  refine Thn.go ?_
  refine TC.seq ?_
  refine TC.region ?_
  refine TL.move rfl rfl ?_
  refine TL.move rfl rfl ?_
  refine TL.append sl22 rfl rfl rfl (World.ownsRow_nil _ w.heap.size _ _) (News.ofRd Try.underlying22 (ha) (rows_one _)) (by omega) (by omega) (by omega) (fun v6 w6 hv6 hc6 _ => ?_)
  have q6 : Ch [] w w6 := Own.thenCh (World.ownsRow_nil w w.heap.size 33 6) (Ch.refl _ _) hc6
  have z6 := q6.size
  refine TL.assign rfl rfl ?_
  refine TL.done ?_
  refine Thn.go ?_
  refine TC.seq ?_
  refine TC.region ?_
  refine TL.move rfl rfl ?_
  refine TL.buildRec [0] [.const (Value.int IntKind.i64 77)] (cl r77) rfl rfl (by kernel_rfl) rfl ?_
  refine TL.buildSlice [.tmp 8] sl22 rfl rfl rfl (by decide) (by first | simp [Value.cells]; done | simp [Value.cells, cl_len]; done) rfl (fun w9 hb9 hc9 hz9 => ?_)
  refine TL.append sl22 rfl rfl rfl (hv6.ch0 hc9) (News.ofRd Try.underlying22 (recOne hb9) (rows_one _)) (by omega) (by omega) (by omega) (fun v10 w10 hv10 hc10 _ => ?_)
  refine TL.assign rfl rfl ?_
  refine TL.done ?_
  refine Thn.go ?_
  refine TC.ret ?_
  refine Ends.ret [2] rfl rfl ?_
  refine ⟨?_, ?_, (hv6.ch0 hc9).thenCh (q6.trans0 hc9) hc10⟩
  · rw [Nat.zero_add] at hv10; exact hv10.form (by omega)
  · rw [Nat.zero_add, List.nil_append] at hv10
    rw [List.flatMap_append]; exact hv10

theorem fn12 (a : Value) (base : Nat) (N : List Wk.Work) (w : World) (ha : Own w base 33 6 a N.length (N.flatMap cl)) : Rets Try.prog 12 #[a] w (fun _ w' => Ch (blk a) w w') := by
  obtain ⟨ad, c, rfl⟩ := ha.shape
  have hNm := (Rd.ofOwn ha).nlt
  have hmm : maxLen = 9223372036854775807 := rfl
  refine Rets.of (n := 13) (vs := [_]) Try.func12 rfl rfl rfl ?_
  refine TC.seq ?_
  refine TC.region ?_
  refine TL.assign rfl rfl ?_
  refine TL.done ?_
  refine Thn.go ?_
  refine TC.block ?_
  refine TC.loop1 (fun (i : Nat) => [(0, .slice ad N.length c), (2, .int .i64 (i : Int))]) (fun i w' => i ≤ N.length ∧ (∃ N' : List Wk.Work, N'.length = N.length ∧ Own w' base 33 6 (.slice ad N.length c) N.length (N'.flatMap cl)) ∧ Ch (blk (.slice ad N.length c)) w w') (fun i => N.length - i) 0 (by repeat (first | exact trivial | refine ⟨rfl, ?_⟩)) (⟨by omega, ⟨N, rfl, ha⟩, Ch.refl _ _⟩) (fun i w' hH => ?_)
  obtain ⟨hi, ⟨N', hN', hown⟩, hch⟩ := hH
  refine TC.seq ?_
  refine TC.seq ?_
  refine TC.region ?_
  refine TL.move rfl rfl ?_
  refine TL.move rfl rfl ?_
  refine TL.lenSlice Try.underlying22 rfl rfl ?_
  refine TL.lss rfl rfl rfl ?_
  refine TL.done ?_
  refine Thn.go ?_
  refine TC.condP rfl (fun h1 => ?_) (fun h1 => ?_)
  ·
    have hil : i < N.length := by omega
    obtain ⟨gs, cs, e⟩ := hown.form (by omega)
    cases e
    rw [← hN'] at hown
    obtain ⟨cur, hcur, hcsz, hcn, _, hgb, _⟩ := hown.has
    refine TC.skip ?_
    refine Thn.go ?_
    refine TC.seq ?_
    refine TC.block ?_
    refine TC.region ?_
    refine TL.move rfl rfl ?_
    refine TL.move rfl rfl ?_
    refine TL.buildRec [0] [.const (Value.int IntKind.i64 77)] (cl r77) rfl rfl (by kernel_rfl) rfl ?_
    refine TL.indexAddr (i) sl22 rfl rfl (by first | rfl | omega) (by omega) rfl ?_
    refine TL.store sz33 rfl rfl rfl hcur (by rw [hcsz]; have := Nat.mul_le_mul_right 6 (show i + 1 ≤ c by omega); omega) (by simpa [Value.cells] using cl_one r77) (.inl rfl) (fun ws1 hbs1 hcs1 hzs1 => ?_)
    have hown2 := hown.setRec cl_len hcur (k := i) (x := r77) (by omega) hbs1
    rw [hN'] at hown2
    refine TL.done ?_
    refine Blk.go ?_
    refine Thn.go ?_
    refine TC.region ?_
    refine TL.move rfl rfl ?_
    refine TL.add_i64 rfl rfl (by omega) (by omega) rfl ?_
    refine TL.assign rfl rfl ?_
    refine TL.done ?_
    refine Lp.go (i + 1) (by repeat (first | exact trivial | refine ⟨rfl, ?_⟩)) ?_ (by first | omega | (dsimp only; omega))
    exact ⟨by omega, ⟨N'.set i r77, by rw [List.length_set, hN'], hown2⟩, hch.trans hcs1 (fun x h _ => h) (fun x h _ => by simpa [blk, Value.ownBlock] using h)⟩
  ·
    refine TC.exit ?_
    refine Thn.exit ?_
    refine Lp.exit ?_
    refine Blk.hit ?_
    refine Ends.normal [] rfl rfl ?_
    exact hch

theorem fn9 (a : Value) (l : List Wk.Work) (u : List UInt8) (rv : Value) (m : List (List UInt8)) (f k : Int) (w : World) (ha : Rd w a 6 l.length (l.flatMap cl)) (hr : Rd w rv 1 m.length (m.map str)) : Rets Try.prog 9 #[a, str u, rv, .int .i64 f, .int .i64 k] w (fun v w' => ∃ r, v = .tuple #[r, .int .i64 (Wk.forE l u m f k : Int)] ∧ Own w' w.heap.size 33 6 r (Wk.forL l u m f k).length ((Wk.forL l u m f k).flatMap cl) ∧ Ch [] w w') := by
  obtain ⟨ad, c, rfl, _⟩ := ha.shape
  obtain ⟨rd, rc, rfl, _⟩ := hr.shape
  have hmx : l.length ≤ 9223372036854775807 := ha.nlt
  have hmm : maxLen = 9223372036854775807 := rfl
  refine Rets.of (n := 81) (vs := [_, _, _, _, _]) Try.func9 rfl rfl rfl ?_
  refine TC.seq ?_
  refine TC.region ?_
  refine TL.assign rfl rfl ?_
  refine TL.assign rfl rfl ?_
  refine TL.done ?_
  refine Thn.go ?_
  refine TC.seq ?_
  refine TC.seq ?_
  refine TC.region ?_
  refine TL.move rfl rfl ?_
  refine TL.call can25 rfl rfl (fn25 _ l w ha) (fun v17 w17 hr17 => ?_)
  obtain ⟨rfl, hc17⟩ := hr17
  refine TL.assign rfl rfl ?_
  refine TL.done ?_
  refine Thn.go ?_
  refine TC.seq ?_
  refine TC.region ?_
  refine TL.move rfl rfl ?_
  refine TL.neq rfl rfl rfl ?_
  refine TL.done ?_
  refine Thn.go ?_
  refine TC.condP rfl (fun h1 => ?_) (fun h1 => ?_)
  ·
    have e1 := Wk.for_check (u := u) (r := m) (f := f) (c := k) (show Wk.checkE l ≠ 0 by omega)
    refine TC.seq ?_
    refine TC.region ?_
    refine TL.move rfl rfl ?_
    refine TL.assign rfl rfl ?_
    refine TL.assign rfl rfl ?_
    refine TL.done ?_
    refine Thn.go ?_
    refine TC.ret ?_
    refine Thn.ret ?_
    refine Ends.ret [10, 11] rfl rfl ?_
    exact ⟨_, by rw [e1]; rfl, by rw [Wk.for_bad (by omega)]; exact World.ownsRow_nil _ _ _ _, hc17⟩
  ·
    have h0 : Wk.checkE l = 0 := by omega
    obtain ⟨hlen, hgood⟩ := Wk.check_zero h0
    refine TC.skip ?_
    refine Thn.go ?_
    refine TC.seq ?_
    refine TC.block ?_
    refine TC.seq ?_
    refine TC.region ?_
    refine TL.move rfl rfl ?_
    refine TL.call can28 rfl rfl (fn28 u w17) (fun v23 w23 hr23 => ?_)
    obtain ⟨rfl, hc23⟩ := hr23
    have q23 := hc17.trans0 hc23
    refine TL.notP rfl rfl ?_
    refine TL.assign rfl rfl ?_
    refine TL.done ?_
    refine Thn.go ?_
    refine TC.condP rfl (fun h2 => ?_) (fun h2 => ?_)
    ·
      have e1 := Wk.for_name (u := u) (r := m) (f := f) (c := k) h0 (by assumption)
      refine TC.seq ?_
      refine TC.region ?_
      refine TL.assign rfl rfl ?_
      refine TL.assign rfl rfl ?_
      refine TL.done ?_
      refine Thn.go ?_
      refine TC.ret ?_
      refine Blk.ret ?_
      refine Thn.ret ?_
      refine Ends.ret [10, 11] rfl rfl ?_
      exact ⟨_, by rw [e1]; rfl, by rw [Wk.for_bad (by omega)]; exact World.ownsRow_nil _ _ _ _, q23⟩
    ·
      have hn : Wk.named u := Decidable.not_not.1 (by assumption)
      refine TC.seq ?_
      refine TC.region ?_
      refine TL.move rfl rfl ?_
      refine TL.lenSlice Try.underlying23 rfl rfl ?_
      refine TL.gtr rfl rfl rfl ?_
      refine TL.assign rfl rfl ?_
      refine TL.done ?_
      refine Thn.go ?_
      refine TC.condP rfl (fun h3 => ?_) (fun h3 => ?_)
      ·
        have e1 := Wk.for_many (u := u) (r := m) (f := f) (c := k) h0 hn (by omega)
        refine TC.seq ?_
        refine TC.region ?_
        refine TL.assign rfl rfl ?_
        refine TL.assign rfl rfl ?_
        refine TL.done ?_
        refine Thn.go ?_
        refine TC.ret ?_
        refine Blk.ret ?_
        refine Thn.ret ?_
        refine Ends.ret [10, 11] rfl rfl ?_
        exact ⟨_, by rw [e1]; rfl, by rw [Wk.for_bad (by omega)]; exact World.ownsRow_nil _ _ _ _, q23⟩
      ·
        refine TC.cut0 ([(0, .slice ad l.length c), (1, str u), (2, .slice rd m.length rc), (3, .int .i64 f), (4, .int .i64 k), (29, .bool (decide (f < 0 ∨ k < 0)))]) (fun w2 => w23 = w2) (fun K4 hK4 => ?_) (fun w2 hM => ?_)
        ·
          refine TC.seq ?_
          refine TC.region ?_
          refine TL.move rfl rfl ?_
          refine TL.lss rfl rfl rfl ?_
          refine TL.assign rfl rfl ?_
          refine TL.done ?_
          refine Thn.go ?_
          refine TC.condP rfl (fun h5 => ?_) (fun h5 => ?_)
          ·
            refine TC.skip ?_
            exact hK4  _ _ (by repeat (first | exact trivial | refine ⟨rfl, ?_⟩ | refine ⟨congrArg (fun b => some (Value.bool b)) (by first | exact (decide_eq_true (by grind)).symm | exact (decide_eq_false (by grind)).symm | exact decide_eq_decide.2 (by grind) | exact decide_eq_true (by grind) | exact decide_eq_false (by grind) | (exfalso; grind)), ?_⟩)) (rfl)
          ·
            refine TC.region ?_
            refine TL.move rfl rfl ?_
            refine TL.lss rfl rfl rfl ?_
            refine TL.assign rfl rfl ?_
            refine TL.done ?_
            exact hK4  _ _ (by repeat (first | exact trivial | refine ⟨rfl, ?_⟩ | refine ⟨congrArg (fun b => some (Value.bool b)) (by first | exact (decide_eq_true (by grind)).symm | exact (decide_eq_false (by grind)).symm | exact decide_eq_decide.2 (by grind) | exact decide_eq_true (by grind) | exact decide_eq_false (by grind) | (exfalso; grind)), ?_⟩)) (rfl)
        ·
          subst hM
          refine TC.condP rfl (fun h6 => ?_) (fun h6 => ?_)
          ·
            have e1 := Wk.for_range (u := u) (r := m) (f := f) (c := k) h0 hn (by omega) (by assumption)
            refine TC.seq ?_
            refine TC.region ?_
            refine TL.assign rfl rfl ?_
            refine TL.assign rfl rfl ?_
            refine TL.done ?_
            refine Thn.go ?_
            refine TC.ret ?_
            refine Blk.ret ?_
            refine Thn.ret ?_
            refine Ends.ret [10, 11] rfl rfl ?_
            exact ⟨_, by rw [e1]; rfl, by rw [Wk.for_bad (by omega)]; exact World.ownsRow_nil _ _ _ _, q23⟩
          ·
            have hfk : ¬ (f < 0 ∨ k < 0) := by assumption
            obtain ⟨e1, e2⟩ := Wk.for_ok (u := u) (r := m) (f := f) (c := k) h0 hn (by omega) hfk
            refine TC.skip ?_
            refine Blk.go ?_
            refine Thn.go ?_
            refine TC.seq ?_
            refine TC.region ?_
            refine TL.assign rfl rfl ?_
            refine TL.done ?_
            refine Thn.go ?_
            refine TC.seq ?_
            refine TC.seq ?_
            refine TC.region ?_
            refine TL.move rfl rfl ?_
            refine TL.lenSlice Try.underlying22 rfl rfl ?_
            refine TL.move rfl rfl ?_
            refine TL.done ?_
            refine Thn.go ?_
            refine TC.block ?_
            refine TC.loop2 (fun (i : Nat) (v : Value) => [(1, str u), (2, .slice rd m.length rc), (3, .int .i64 f), (4, .int .i64 k), (13, v), (34, .slice ad l.length c), (35, .int .i64 (l.length : Int)), (36, .int .i64 (i : Int))]) (fun i v w' => i ≤ l.length ∧ Own w' w23.heap.size 33 6 v (Wk.seen (l.take i) u m).length ((Wk.seen (l.take i) u m).flatMap cl) ∧ Ch [] w23 w') (fun i _ => l.length - i) 0 (.slice none 0 0) (by repeat (first | exact trivial | refine ⟨rfl, ?_⟩)) (⟨by omega, World.ownsRow_nil _ _ _ _, Ch.refl _ _⟩) (fun i v w' hH => ?_)
            obtain ⟨hi, hown, hch⟩ := hH
            have hsl := Wk.seen_len (l.take i) u m
            rw [List.length_take] at hsl
            refine TC.seq ?_
            refine TC.region ?_
            refine TL.lss rfl rfl rfl ?_
            refine TL.done ?_
            refine Thn.go ?_
            refine TC.seq ?_
            refine TC.condP rfl (fun h7 => ?_) (fun h7 => ?_)
            ·
              have hil : i < l.length := by omega
              obtain ⟨b1, o1, rfl, hce⟩ := recAt ((ha.ch0 q23).ch0 hch) hil
              obtain ⟨x, hx⟩ : ∃ x, Wk.rec l i = x := ⟨_, rfl⟩
              rw [hx] at hce
              have hse : Wk.sees x u m ↔ (x.state.toNat = 1 ∧ x.role ∈ m) ∨ (x.state.toNat = 2 ∧ x.owner = u) := Iff.rfl
              refine TC.skip ?_
              refine Thn.go ?_
              refine TC.seq ?_
              refine TC.block ?_
              refine TC.seq ?_
              refine TC.region ?_
              refine TL.indexAddr (i) sl22 rfl rfl (by first | rfl | omega) (by omega) rfl ?_
              refine TL.loadAgg (cl x) ag33 rfl rfl (fun j hj => hce j hj) rfl ?_
              refine TL.alloc ze33 rfl (fun w15 hb15 hc15 hz15 => ?_)
              refine TL.store sz33 rfl rfl rfl hb15 (by simp [Value.cells]) (by simpa [Value.cells] using cl_one x) (.inl rfl) (fun ws1 hbs1 hcs1 hzs1 => ?_)
              replace hbs1 : Has ws1 w'.heap.size (cl x).toArray 33 (0, 0) := hbs1.setAll rfl
              have q1 : Ch [] w' ws1 := hc15.then1 hcs1 (Nat.le_refl _)
              have hrs := ((hr.ch0 q23).ch0 hch).ch0 q1
              have hown1 := hown.ch0 q1
              have z1 := hch.size; have z2 := q1.size
              refine TL.done ?_
              refine Thn.go ?_
              refine TC.regionBool (d := 59) (p := Wk.sees x u m) (fun K8 hK8 => ?_) ?_
              ·
                refine TL.fieldAddr fd33k4 rfl rfl ?_
                refine TL.load pl5 rfl (hbs1.cell _) rfl ?_
                refine TL.eql rfl rfl rfl ?_
                refine TL.em (fun e42 => ?_) (fun e42 => ?_)
                ·
                  refine TL.move rfl rfl ?_
                  refine TL.guardYes (d := 43) rfl rfl rfl ?_
                  refine TL.move rfl rfl ?_
                  refine TL.guardYes (d := 43) rfl rfl rfl ?_
                  refine TL.fieldAddr fd33k3 rfl rfl ?_
                  refine TL.guardYes (d := 43) rfl rfl rfl ?_
                  refine TL.load pl9 rfl (hbs1.cell _) rfl ?_
                  refine TL.guardYes (d := 43) rfl rfl rfl ?_
                  refine TL.call can29 rfl rfl (fn29 _ m x.role _ hrs) (fun v47 w47 hr47 => ?_)
                  obtain ⟨rfl, rfl⟩ := hr47
                  refine TL.em (fun e47 => ?_) (fun e47 => ?_)
                  ·
                    refine TL.pickT rfl rfl rfl rfl ?_
                    refine TL.move rfl rfl ?_
                    refine TL.guardNo (d := 49) rfl rfl rfl rfl rfl ?_
                    refine TL.guardNo (d := 49) rfl rfl rfl rfl rfl ?_
                    refine TL.guardNo (d := 49) rfl rfl rfl rfl rfl ?_
                    refine TL.guardNo (d := 49) rfl rfl rfl rfl rfl ?_
                    refine TL.guardUndef (d := 53) rfl rfl rfl rfl ?_
                    refine TL.guardUndef (d := 53) rfl rfl rfl rfl ?_
                    refine TL.guardUndef (d := 53) rfl rfl rfl rfl ?_
                    refine TL.guardUndef (d := 53) rfl rfl rfl rfl ?_
                    refine TL.guardNo (d := 49) rfl rfl rfl rfl rfl ?_
                    refine TL.pickT rfl rfl rfl rfl ?_
                    refine TL.done ?_
                    refine hK8 _ ?_
                    refine Le.here rfl (by first | exact decide_eq_true (by omega) | exact decide_eq_false (by omega) | exact decide_eq_decide.2 (by omega) | exact decide_eq_true (by grind) | exact decide_eq_false (by grind) | exact decide_eq_decide.2 (by grind)) ?_
                    repeat (first | exact Le.refl _ | refine Le.skip rfl ?_)
                  ·
                    refine TL.pickT rfl rfl rfl rfl ?_
                    refine TL.move rfl rfl ?_
                    refine TL.guardYes (d := 49) rfl rfl rfl ?_
                    refine TL.fieldAddr fd33k4 rfl rfl ?_
                    refine TL.guardYes (d := 49) rfl rfl rfl ?_
                    refine TL.load pl5 rfl (hbs1.cell _) rfl ?_
                    refine TL.guardYes (d := 49) rfl rfl rfl ?_
                    refine TL.eql rfl rfl rfl ?_
                    refine TL.em (fun e52 => ?_) (fun e52 => ?_)
                    ·
                      refine TL.guardYes (d := 49) rfl rfl rfl ?_
                      refine TL.move rfl rfl ?_
                      refine TL.guardYes (d := 53) rfl rfl rfl ?_
                      refine TL.fieldAddr fd33k5 rfl rfl ?_
                      refine TL.guardYes (d := 53) rfl rfl rfl ?_
                      refine TL.load pl9 rfl (hbs1.cell _) rfl ?_
                      refine TL.guardYes (d := 53) rfl rfl rfl ?_
                      refine TL.move rfl rfl ?_
                      refine TL.guardYes (d := 53) rfl rfl rfl ?_
                      refine TL.eqlStr rfl rfl rfl ?_
                      refine TL.guardYes (d := 49) rfl rfl rfl ?_
                      refine TL.pickT rfl rfl rfl rfl ?_
                      refine TL.pickF rfl rfl rfl rfl ?_
                      refine TL.done ?_
                      refine hK8 _ ?_
                      refine Le.here rfl (by first | exact decide_eq_true (by omega) | exact decide_eq_false (by omega) | exact decide_eq_decide.2 (by omega) | exact decide_eq_true (by grind) | exact decide_eq_false (by grind) | exact decide_eq_decide.2 (by grind)) ?_
                      repeat (first | exact Le.refl _ | refine Le.skip rfl ?_)
                    ·
                      refine TL.guardYes (d := 49) rfl rfl rfl ?_
                      refine TL.move rfl rfl ?_
                      refine TL.guardNo (d := 53) rfl rfl rfl rfl rfl ?_
                      refine TL.guardNo (d := 53) rfl rfl rfl rfl rfl ?_
                      refine TL.guardNo (d := 53) rfl rfl rfl rfl rfl ?_
                      refine TL.guardNo (d := 53) rfl rfl rfl rfl rfl ?_
                      refine TL.guardYes (d := 49) rfl rfl rfl ?_
                      refine TL.pickF rfl rfl rfl rfl ?_
                      refine TL.pickF rfl rfl rfl rfl ?_
                      refine TL.done ?_
                      refine hK8 _ ?_
                      refine Le.here rfl (by first | exact decide_eq_true (by omega) | exact decide_eq_false (by omega) | exact decide_eq_decide.2 (by omega) | exact decide_eq_true (by grind) | exact decide_eq_false (by grind) | exact decide_eq_decide.2 (by grind)) ?_
                      repeat (first | exact Le.refl _ | refine Le.skip rfl ?_)
                ·
                  refine TL.move rfl rfl ?_
                  refine TL.guardNo (d := 43) rfl rfl rfl rfl rfl ?_
                  refine TL.guardNo (d := 43) rfl rfl rfl rfl rfl ?_
                  refine TL.guardNo (d := 43) rfl rfl rfl rfl rfl ?_
                  refine TL.guardNo (d := 43) rfl rfl rfl rfl rfl ?_
                  refine TL.pickF rfl rfl rfl rfl ?_
                  refine TL.move rfl rfl ?_
                  refine TL.guardYes (d := 49) rfl rfl rfl ?_
                  refine TL.fieldAddr fd33k4 rfl rfl ?_
                  refine TL.guardYes (d := 49) rfl rfl rfl ?_
                  refine TL.load pl5 rfl (hbs1.cell _) rfl ?_
                  refine TL.guardYes (d := 49) rfl rfl rfl ?_
                  refine TL.eql rfl rfl rfl ?_
                  refine TL.em (fun e52 => ?_) (fun e52 => ?_)
                  ·
                    refine TL.guardYes (d := 49) rfl rfl rfl ?_
                    refine TL.move rfl rfl ?_
                    refine TL.guardYes (d := 53) rfl rfl rfl ?_
                    refine TL.fieldAddr fd33k5 rfl rfl ?_
                    refine TL.guardYes (d := 53) rfl rfl rfl ?_
                    refine TL.load pl9 rfl (hbs1.cell _) rfl ?_
                    refine TL.guardYes (d := 53) rfl rfl rfl ?_
                    refine TL.move rfl rfl ?_
                    refine TL.guardYes (d := 53) rfl rfl rfl ?_
                    refine TL.eqlStr rfl rfl rfl ?_
                    refine TL.guardYes (d := 49) rfl rfl rfl ?_
                    refine TL.pickT rfl rfl rfl rfl ?_
                    refine TL.pickF rfl rfl rfl rfl ?_
                    refine TL.done ?_
                    refine hK8 _ ?_
                    refine Le.here rfl (by first | exact decide_eq_true (by omega) | exact decide_eq_false (by omega) | exact decide_eq_decide.2 (by omega) | exact decide_eq_true (by grind) | exact decide_eq_false (by grind) | exact decide_eq_decide.2 (by grind)) ?_
                    repeat (first | exact Le.refl _ | refine Le.skip rfl ?_)
                  ·
                    refine TL.guardYes (d := 49) rfl rfl rfl ?_
                    refine TL.move rfl rfl ?_
                    refine TL.guardNo (d := 53) rfl rfl rfl rfl rfl ?_
                    refine TL.guardNo (d := 53) rfl rfl rfl rfl rfl ?_
                    refine TL.guardNo (d := 53) rfl rfl rfl rfl rfl ?_
                    refine TL.guardNo (d := 53) rfl rfl rfl rfl rfl ?_
                    refine TL.guardYes (d := 49) rfl rfl rfl ?_
                    refine TL.pickF rfl rfl rfl rfl ?_
                    refine TL.pickF rfl rfl rfl rfl ?_
                    refine TL.done ?_
                    refine hK8 _ ?_
                    refine Le.here rfl (by first | exact decide_eq_true (by omega) | exact decide_eq_false (by omega) | exact decide_eq_decide.2 (by omega) | exact decide_eq_true (by grind) | exact decide_eq_false (by grind) | exact decide_eq_decide.2 (by grind)) ?_
                    repeat (first | exact Le.refl _ | refine Le.skip rfl ?_)
              refine TC.condP rfl (fun h13 => ?_) (fun h13 => ?_)
              ·
                refine TC.region ?_
                refine TL.move rfl rfl ?_
                refine TL.loadAgg (cl x) ag33 rfl rfl (fun j _ => by rw [hbs1.cell, Nat.zero_add, List.getElem?_toArray]) rfl ?_
                refine TL.buildSlice [.tmp 61] sl22 rfl rfl rfl (by decide) (by first | simp [Value.cells]; done | simp [Value.cells, cl_len]; done) rfl (fun w62 hb62 hc62 hz62 => ?_)
                refine TL.append sl22 rfl rfl rfl (hown1.ch0 hc62) (News.ofRd Try.underlying22 (recOne hb62) (rows_one _)) (by omega) (by omega) (by omega) (fun v63 w63 hv63 hc63 _ => ?_)
                refine TL.assign rfl rfl ?_
                refine TL.done ?_
                refine Blk.go ?_
                refine Thn.go ?_
                refine TC.region ?_
                refine TL.add_i64 rfl rfl (by omega) (by omega) rfl ?_
                refine TL.move rfl rfl ?_
                refine TL.done ?_
                refine Lp.go ((i + 1, v63)) (by repeat (first | exact trivial | refine ⟨rfl, ?_⟩)) ?_ (by first | omega | (dsimp only; omega))
                refine ⟨by show i + 1 ≤ l.length; omega, ?_, (hown1.ch0 hc62).thenCh ((hch.trans0 q1).trans0 hc62) hc63⟩
                show Own w63 _ 33 6 v63 (Wk.seen (l.take (i + 1)) u m).length _
                rw [Wk.seen_yes hil (by rw [hx]; assumption), hx, List.length_append, List.flatMap_append]; exact hv63
              ·
                refine TC.skip ?_
                refine Blk.go ?_
                refine Thn.go ?_
                refine TC.region ?_
                refine TL.add_i64 rfl rfl (by omega) (by omega) rfl ?_
                refine TL.move rfl rfl ?_
                refine TL.done ?_
                refine Lp.go ((i + 1, v)) (by repeat (first | exact trivial | refine ⟨rfl, ?_⟩)) ?_ (by first | omega | (dsimp only; omega))
                refine ⟨by show i + 1 ≤ l.length; omega, ?_, hch.trans0 q1⟩
                show Own ws1 _ 33 6 v (Wk.seen (l.take (i + 1)) u m).length _
                rw [Wk.seen_no hil (by rw [hx]; assumption)]; exact hown1
            ·
              have hil : i = l.length := by omega
              subst hil
              rw [List.take_length] at hown hsl
              obtain ⟨S, hS⟩ : ∃ S, Wk.seen l u m = S := ⟨_, rfl⟩
              rw [hS] at hown hsl e2
              obtain ⟨av, cv, rfl⟩ := hown.shape
              obtain ⟨i, hi⟩ : ∃ i, min f.toNat S.length = i := ⟨_, rfl⟩
              obtain ⟨n, hn'⟩ : ∃ n, min k.toNat (S.length - i) = n := ⟨_, rfl⟩
              have e3 : (S.drop f.toNat).take k.toNat = (S.drop i).take n := by
                rcases Nat.lt_or_ge S.length f.toNat with h | h
                · rw [List.drop_eq_nil_of_le (by omega), List.drop_eq_nil_of_le (show S.length ≤ i by omega)]; simp
                · rw [show i = f.toNat by omega]
                  rcases Nat.lt_or_ge k.toNat (S.length - i) with h' | h'
                  · rw [show n = k.toNat by omega]
                  · rw [List.take_of_length_le (by rw [List.length_drop]; omega), List.take_of_length_le (by rw [List.length_drop]; omega)]
              refine TC.exit ?_
              refine Thn.exit ?_
              refine Lp.exit ?_
              refine Blk.hit ?_
              refine Thn.go ?_
              refine TC.seq ?_
              refine TC.region ?_
              refine TL.move rfl rfl ?_
              refine TL.move rfl rfl ?_
              refine TL.lenSlice Try.underlying22 rfl rfl ?_
              refine TL.min2 rfl rfl rfl ?_
              refine TL.top (v' := .int .i64 (i : Int)) (by congr 1; omega) ?_
              refine TL.assign rfl rfl ?_
              refine TL.done ?_
              refine Thn.go ?_
              refine TC.seq ?_
              refine TC.region ?_
              refine TL.move rfl rfl ?_
              refine TL.move rfl rfl ?_
              refine TL.move rfl rfl ?_
              refine TL.move rfl rfl ?_
              refine TL.move rfl rfl ?_
              refine TL.lenSlice Try.underlying22 rfl rfl ?_
              refine TL.move rfl rfl ?_
              refine TL.sub_i64 rfl rfl (by omega) (by omega) rfl ?_
              refine TL.min2 rfl rfl rfl ?_
              refine TL.top (v' := .int .i64 (n : Int)) (by congr 1; omega) ?_
              refine TL.add_i64 rfl rfl (by omega) (by omega) rfl ?_
              refine TL.top (v' := .int .i64 ((i + n : Nat) : Int)) (by congr 1) ?_
              have hcap := (Rd.ofOwn hown).cap
              refine TL.sliceLoHi (i) (i + n) sl22 rfl rfl rfl (by first | rfl | omega) (by first | rfl | omega) (by omega) (by omega) rfl ?_
              have hp := (Rd.ofOwn hown).part (i := i) (j := i + n) (by omega) (by omega)
              rw [rows_drop cl_len, Nat.add_sub_cancel_left, rows_take cl_len] at hp
              rw [Nat.add_sub_cancel_left]
              refine TL.call can30 rfl rfl (fn30 _ ((S.drop i).take n) (by simp; omega) w' (Rd.recs hp _ (by simp; omega) rfl)) (fun v80 w80 hr80 => ?_)
              obtain ⟨hv80, hc80⟩ := hr80
              refine TL.assign rfl rfl ?_
              refine TL.assign rfl rfl ?_
              refine TL.done ?_
              refine Thn.go ?_
              refine TC.ret ?_
              refine Ends.ret [10, 11] rfl rfl ?_
              exact ⟨_, by rw [e1]; rfl, by rw [e2, e3]; exact hv80.base (by have := q23.size; have := hch.size; omega), (q23.trans0 hch).trans0 hc80⟩

theorem fn10 (a : Value) (l : List Wk.Work) (u : List UInt8) (rv : Value) (m : List (List UInt8)) (f k : Int) (w : World) (ha : Rd w a 6 l.length (l.flatMap cl)) (hr : Rd w rv 1 m.length (m.map str)) : Rets Try.prog 10 #[a, str u, rv, .int .i64 f, .int .i64 k] w (fun v w' => ∃ r, v = .tuple #[r, .int .i64 (Wk.forE l u m f k : Int)] ∧ Own w' w.heap.size 33 6 r (Wk.forL l u m f k).length ((Wk.forL l u m f k).flatMap cl) ∧ Ch [] w w') := by
  obtain ⟨ad, c, rfl, _⟩ := ha.shape
  obtain ⟨rd, rc, rfl, _⟩ := hr.shape
  have hmx : l.length ≤ 9223372036854775807 := ha.nlt
  have hmm : maxLen = 9223372036854775807 := rfl
  refine Rets.of (n := 65) (vs := [_, _, _, _, _]) Try.func10 rfl rfl rfl ?_
  refine TC.seq ?_
  refine TC.region ?_
  refine TL.assign rfl rfl ?_
  refine TL.assign rfl rfl ?_
  refine TL.done ?_
  refine Thn.go ?_
  refine TC.seq ?_
  refine TC.region ?_
  refine TL.move rfl rfl ?_
  refine TL.call can26 rfl rfl (fn26 _ l w ha) (fun v17 w17 hr17 => ?_)
  obtain ⟨rfl, hc17⟩ := hr17
  refine TL.assign rfl rfl ?_
  refine TL.done ?_
  refine Thn.go ?_
  refine TC.seq ?_
  refine TC.seq ?_
  refine TC.region ?_
  refine TL.move rfl rfl ?_
  refine TL.neq rfl rfl rfl ?_
  refine TL.done ?_
  refine Thn.go ?_
  refine TC.condP rfl (fun h1 => ?_) (fun h1 => ?_)
  ·
    have e1 := Wk.for_check (u := u) (r := m) (f := f) (c := k) (show Wk.checkE l ≠ 0 by omega)
    refine TC.seq ?_
    refine TC.region ?_
    refine TL.move rfl rfl ?_
    refine TL.assign rfl rfl ?_
    refine TL.assign rfl rfl ?_
    refine TL.done ?_
    refine Thn.go ?_
    refine TC.ret ?_
    refine Thn.ret ?_
    refine Ends.ret [10, 11] rfl rfl ?_
    exact ⟨_, by rw [e1]; rfl, by rw [Wk.for_bad (by omega)]; exact World.ownsRow_nil _ _ _ _, hc17⟩
  ·
    have h0 : Wk.checkE l = 0 := by omega
    obtain ⟨hlen, hgood⟩ := Wk.check_zero h0
    refine TC.skip ?_
    refine Thn.go ?_
    refine TC.seq ?_
    refine TC.seq ?_
    refine TC.region ?_
    refine TL.move rfl rfl ?_
    refine TL.call can31 rfl rfl (fn31 u w17) (fun v22 w22 hr22 => ?_)
    obtain ⟨rfl, rfl⟩ := hr22
    refine TL.notP rfl rfl ?_
    refine TL.done ?_
    refine Thn.go ?_
    refine TC.condP rfl (fun h2 => ?_) (fun h2 => ?_)
    ·
      have e1 := Wk.for_name (u := u) (r := m) (f := f) (c := k) h0 (by assumption)
      refine TC.seq ?_
      refine TC.region ?_
      refine TL.assign rfl rfl ?_
      refine TL.assign rfl rfl ?_
      refine TL.done ?_
      refine Thn.go ?_
      refine TC.ret ?_
      refine Thn.ret ?_
      refine Ends.ret [10, 11] rfl rfl ?_
      exact ⟨_, by rw [e1]; rfl, by rw [Wk.for_bad (by omega)]; exact World.ownsRow_nil _ _ _ _, hc17⟩
    ·
      have hn : Wk.named u := Decidable.not_not.1 (by assumption)
      refine TC.skip ?_
      refine Thn.go ?_
      refine TC.seq ?_
      refine TC.seq ?_
      refine TC.region ?_
      refine TL.move rfl rfl ?_
      refine TL.lenSlice Try.underlying23 rfl rfl ?_
      refine TL.gtr rfl rfl rfl ?_
      refine TL.done ?_
      refine Thn.go ?_
      refine TC.condP rfl (fun h3 => ?_) (fun h3 => ?_)
      ·
        have e1 := Wk.for_many (u := u) (r := m) (f := f) (c := k) h0 hn (by omega)
        refine TC.seq ?_
        refine TC.region ?_
        refine TL.assign rfl rfl ?_
        refine TL.assign rfl rfl ?_
        refine TL.done ?_
        refine Thn.go ?_
        refine TC.ret ?_
        refine Thn.ret ?_
        refine Ends.ret [10, 11] rfl rfl ?_
        exact ⟨_, by rw [e1]; rfl, by rw [Wk.for_bad (by omega)]; exact World.ownsRow_nil _ _ _ _, hc17⟩
      ·
        refine TC.skip ?_
        refine Thn.go ?_
        refine TC.seq ?_
        refine TC.regionBool (d := 32) (p := (f < 0 ∨ k < 0)) (fun K4 hK4 => ?_) ?_
        ·
          refine TL.move rfl rfl ?_
          refine TL.lss rfl rfl rfl ?_
          refine TL.em (fun e28 => ?_) (fun e28 => ?_)
          ·
            refine TL.move rfl rfl ?_
            refine TL.guardNo (d := 29) rfl rfl rfl rfl rfl ?_
            refine TL.guardNo (d := 29) rfl rfl rfl rfl rfl ?_
            refine TL.pickT rfl rfl rfl rfl ?_
            refine TL.done ?_
            refine hK4 _ ?_
            refine Le.here rfl (by first | exact decide_eq_true (by omega) | exact decide_eq_false (by omega) | exact decide_eq_decide.2 (by omega) | exact decide_eq_true (by grind) | exact decide_eq_false (by grind) | exact decide_eq_decide.2 (by grind)) ?_
            repeat (first | exact Le.refl _ | refine Le.skip rfl ?_)
          ·
            refine TL.move rfl rfl ?_
            refine TL.guardYes (d := 29) rfl rfl rfl ?_
            refine TL.move rfl rfl ?_
            refine TL.guardYes (d := 29) rfl rfl rfl ?_
            refine TL.lss rfl rfl rfl ?_
            refine TL.pickF rfl rfl rfl rfl ?_
            refine TL.done ?_
            refine hK4 _ ?_
            refine Le.here rfl (by first | exact decide_eq_true (by omega) | exact decide_eq_false (by omega) | exact decide_eq_decide.2 (by omega) | exact decide_eq_true (by grind) | exact decide_eq_false (by grind) | exact decide_eq_decide.2 (by grind)) ?_
            repeat (first | exact Le.refl _ | refine Le.skip rfl ?_)
        refine TC.condP rfl (fun h6 => ?_) (fun h6 => ?_)
        ·
          have e1 := Wk.for_range (u := u) (r := m) (f := f) (c := k) h0 hn (by omega) (by assumption)
          refine TC.seq ?_
          refine TC.region ?_
          refine TL.assign rfl rfl ?_
          refine TL.assign rfl rfl ?_
          refine TL.done ?_
          refine Thn.go ?_
          refine TC.ret ?_
          refine Thn.ret ?_
          refine Ends.ret [10, 11] rfl rfl ?_
          exact ⟨_, by rw [e1]; rfl, by rw [Wk.for_bad (by omega)]; exact World.ownsRow_nil _ _ _ _, hc17⟩
        ·
          have hfk : ¬ (f < 0 ∨ k < 0) := by assumption
          obtain ⟨e1, e2⟩ := Wk.for_ok (u := u) (r := m) (f := f) (c := k) h0 hn (by omega) hfk
          have hp0 : Wk.pg (Wk.seen (l.take 0) u m) f.toNat k.toNat = [] := by simp [Wk.pg, Wk.seen]
          refine TC.skip ?_
          refine Thn.go ?_
          refine TC.seq ?_
          refine TC.region ?_
          refine TL.assign rfl rfl ?_
          refine TL.done ?_
          refine Thn.go ?_
          refine TC.seq ?_
          refine TC.region ?_
          refine TL.assign rfl rfl ?_
          refine TL.done ?_
          refine Thn.go ?_
          refine TC.seq ?_
          refine TC.seq ?_
          refine TC.region ?_
          refine TL.assign rfl rfl ?_
          refine TL.done ?_
          refine Thn.go ?_
          refine TC.block ?_
          refine TC.loop3 (fun (i : Nat) (v : Value) (n : Nat) => [(0, .slice ad l.length c), (1, str u), (2, .slice rd m.length rc), (3, .int .i64 f), (4, .int .i64 k), (13, v), (14, .int .i64 (n : Int)), (15, .int .i64 (i : Int))]) (fun i v n w' => i ≤ l.length ∧ n = (Wk.seen (l.take i) u m).length ∧ Own w' w22.heap.size 33 6 v (Wk.pg (Wk.seen (l.take i) u m) f.toNat k.toNat).length ((Wk.pg (Wk.seen (l.take i) u m) f.toNat k.toNat).flatMap cl) ∧ Ch [] w22 w') (fun i _ _ => l.length - i) 0 (.slice none 0 0) 0 (by repeat (first | exact trivial | refine ⟨rfl, ?_⟩)) (⟨by omega, by simp [Wk.seen], by rw [hp0]; exact World.ownsRow_nil _ _ _ _, Ch.refl _ _⟩) (fun i v n w' hH => ?_)
          obtain ⟨hi, hnS, hown, hch⟩ := hH
          have hsl := Wk.seen_len (l.take i) u m
          rw [List.length_take] at hsl
          obtain ⟨S, hS⟩ : ∃ S, Wk.seen (l.take i) u m = S := ⟨_, rfl⟩
          rw [hS] at hown hsl hnS
          obtain ⟨av, cv, rfl⟩ := hown.shape
          refine TC.seq ?_
          refine TC.regionBool (d := 42) (p := (i < l.length ∧ ((Wk.pg S f.toNat k.toNat).length : Int) < k)) (fun K7 hK7 => ?_) ?_
          ·
            refine TL.move rfl rfl ?_
            refine TL.move rfl rfl ?_
            refine TL.lenSlice Try.underlying22 rfl rfl ?_
            refine TL.lss rfl rfl rfl ?_
            refine TL.em (fun e36 => ?_) (fun e36 => ?_)
            ·
              refine TL.move rfl rfl ?_
              refine TL.guardYes (d := 37) rfl rfl rfl ?_
              refine TL.move rfl rfl ?_
              refine TL.guardYes (d := 37) rfl rfl rfl ?_
              refine TL.lenSlice Try.underlying22 rfl rfl ?_
              refine TL.guardYes (d := 37) rfl rfl rfl ?_
              refine TL.move rfl rfl ?_
              refine TL.guardYes (d := 37) rfl rfl rfl ?_
              refine TL.lss rfl rfl rfl ?_
              refine TL.pickT rfl rfl rfl rfl ?_
              refine TL.done ?_
              refine hK7 _ ?_
              refine Le.here rfl (by first | exact decide_eq_true (by omega) | exact decide_eq_false (by omega) | exact decide_eq_decide.2 (by omega) | exact decide_eq_true (by grind) | exact decide_eq_false (by grind) | exact decide_eq_decide.2 (by grind)) ?_
              repeat (first | exact Le.refl _ | refine Le.skip rfl ?_)
            ·
              refine TL.move rfl rfl ?_
              refine TL.guardNo (d := 37) rfl rfl rfl rfl rfl ?_
              refine TL.guardNo (d := 37) rfl rfl rfl rfl rfl ?_
              refine TL.guardNo (d := 37) rfl rfl rfl rfl rfl ?_
              refine TL.guardNo (d := 37) rfl rfl rfl rfl rfl ?_
              refine TL.pickF rfl rfl rfl rfl ?_
              refine TL.done ?_
              refine hK7 _ ?_
              refine Le.here rfl (by first | exact decide_eq_true (by omega) | exact decide_eq_false (by omega) | exact decide_eq_decide.2 (by omega) | exact decide_eq_true (by grind) | exact decide_eq_false (by grind) | exact decide_eq_decide.2 (by grind)) ?_
              repeat (first | exact Le.refl _ | refine Le.skip rfl ?_)
          refine TC.condP rfl (fun h9 => ?_) (fun h9 => ?_)
          ·
            have hand : i < l.length ∧ ((Wk.pg S f.toNat k.toNat).length : Int) < k := by assumption
            have hil := hand.1
            obtain ⟨b1, o1, rfl, hce⟩ := recAt ((ha.ch0 hc17).ch0 hch) hil
            have hce2 : ∀ w2, Ch [] w' w2 → ∀ j, j < 6 → w2.cell? ⟨b1, o1 + i * 6 + j, none⟩ = (cl (Wk.rec l i))[j]? := fun w2 h2 => by obtain ⟨b', o', e, hh⟩ := recAt (i := i) (((ha.ch0 hc17).ch0 hch).ch0 h2) (by omega); cases e; exact hh
            obtain ⟨x, hx⟩ : ∃ x, Wk.rec l i = x := ⟨_, rfl⟩
            rw [hx] at hce hce2
            refine TC.skip ?_
            refine Thn.go ?_
            refine TC.seq ?_
            refine TC.block ?_
            refine TC.seq ?_
            refine TC.region ?_
            refine TL.move rfl rfl ?_
            refine TL.move rfl rfl ?_
            refine TL.indexAddr (i) sl22 rfl rfl (by first | rfl | omega) (by omega) rfl ?_
            refine TL.loadAgg (cl x) ag33 rfl rfl (fun j hj => hce j hj) rfl ?_
            refine TL.move rfl rfl ?_
            refine TL.move rfl rfl ?_
            refine TL.call can32 rfl rfl (fn32 x u _ m w' ((hr.ch0 hc17).ch0 hch)) (fun v51 w51 hr51 => ?_)
            obtain ⟨rfl, hc51⟩ := hr51
            have hown1 := hown.ch0 hc51
            have z1 := hch.size; have z2 := hc51.size
            have hpl : (Wk.pg S f.toNat k.toNat).length ≤ S.length := by rw [Wk.pg, List.length_take, List.length_drop]; omega
            refine TL.done ?_
            refine Thn.go ?_
            refine TC.condP rfl (fun h10 => ?_) (fun h10 => ?_)
            ·
              have hs1 := Wk.seen_yes hil (by rw [hx]; assumption : Wk.sees (Wk.rec l i) u m)
              rw [hS, hx] at hs1
              refine TC.cut1 (fun (v2 : Value) => [(0, .slice (some ⟨b1, o1, none⟩) l.length c), (1, str u), (2, .slice rd m.length rc), (3, .int .i64 f), (4, .int .i64 k), (13, v2), (14, .int .i64 (n : Int)), (15, .int .i64 (i : Int))]) (fun v2 w3 => Own w3 w22.heap.size 33 6 v2 (Wk.pg (S ++ [x]) f.toNat k.toNat).length ((Wk.pg (S ++ [x]) f.toNat k.toNat).flatMap cl) ∧ Ch [] w22 w3) (fun K11 hK11 => ?_) (fun v2 w3 hM => ?_)
              ·
                refine TC.seq ?_
                refine TC.region ?_
                refine TL.move rfl rfl ?_
                refine TL.move rfl rfl ?_
                refine TL.geq rfl rfl rfl ?_
                refine TL.done ?_
                refine Thn.go ?_
                refine TC.condP rfl (fun h12 => ?_) (fun h12 => ?_)
                ·
                  refine TC.region ?_
                  refine TL.move rfl rfl ?_
                  refine TL.move rfl rfl ?_
                  refine TL.move rfl rfl ?_
                  refine TL.indexAddr (i) sl22 rfl rfl (by first | rfl | omega) (by omega) rfl ?_
                  refine TL.loadAgg (cl x) ag33 rfl rfl (fun j hj => hce2 _ hc51 j hj) rfl ?_
                  refine TL.buildSlice [.tmp 59] sl22 rfl rfl rfl (by decide) (by first | simp [Value.cells]; done | simp [Value.cells, cl_len]; done) rfl (fun w60 hb60 hc60 hz60 => ?_)
                  refine TL.append sl22 rfl rfl rfl (hown1.ch0 hc60) (News.ofRd Try.underlying22 (recOne hb60) (rows_one _)) (by omega) (by omega) (by omega) (fun v61 w61 hv61 hc61 _ => ?_)
                  refine TL.assign rfl rfl ?_
                  refine TL.done ?_
                  exact hK11 v61 _ _ (by repeat (first | exact trivial | refine ⟨rfl, ?_⟩ | refine ⟨congrArg (fun b => some (Value.bool b)) (by first | exact (decide_eq_true (by grind)).symm | exact (decide_eq_false (by grind)).symm | exact decide_eq_decide.2 (by grind) | exact decide_eq_true (by grind) | exact decide_eq_false (by grind) | (exfalso; grind)), ?_⟩)) (⟨by rw [Wk.pg_in x (by omega) (by omega), List.length_append, List.flatMap_append]; exact hv61, (hown1.ch0 hc60).thenCh ((hch.trans0 hc51).trans0 hc60) hc61⟩)
                ·
                  refine TC.skip ?_
                  exact hK11 (.slice av (Wk.pg S f.toNat k.toNat).length cv) _ _ (by repeat (first | exact trivial | refine ⟨rfl, ?_⟩ | refine ⟨congrArg (fun b => some (Value.bool b)) (by first | exact (decide_eq_true (by grind)).symm | exact (decide_eq_false (by grind)).symm | exact decide_eq_decide.2 (by grind) | exact decide_eq_true (by grind) | exact decide_eq_false (by grind) | (exfalso; grind)), ?_⟩)) (⟨by rw [Wk.pg_skip x (by omega)]; exact hown1, hch.trans0 hc51⟩)
              ·
                obtain ⟨hown2, hch2⟩ := hM
                refine TC.region ?_
                refine TL.move rfl rfl ?_
                refine TL.add_i64 rfl rfl (by omega) (by omega) rfl ?_
                refine TL.assign rfl rfl ?_
                refine TL.done ?_
                refine Blk.go ?_
                refine Thn.go ?_
                refine TC.region ?_
                refine TL.move rfl rfl ?_
                refine TL.add_i64 rfl rfl (by omega) (by omega) rfl ?_
                refine TL.assign rfl rfl ?_
                refine TL.done ?_
                refine Lp.go ((i + 1, v2, n + 1)) (by repeat (first | exact trivial | refine ⟨rfl, ?_⟩)) ?_ (by first | omega | (dsimp only; omega))
                refine ⟨by show i + 1 ≤ l.length; omega, by show n + 1 = (Wk.seen (l.take (i + 1)) u m).length; rw [hs1, List.length_append, hnS]; rfl, ?_, hch2⟩
                show Own w3 _ 33 6 v2 (Wk.pg (Wk.seen (l.take (i + 1)) u m) f.toNat k.toNat).length _
                rw [hs1]; exact hown2
            ·
              have hs1 := Wk.seen_no hil (by rw [hx]; assumption : ¬ Wk.sees (Wk.rec l i) u m)
              rw [hS] at hs1
              refine TC.skip ?_
              refine Blk.go ?_
              refine Thn.go ?_
              refine TC.region ?_
              refine TL.move rfl rfl ?_
              refine TL.add_i64 rfl rfl (by omega) (by omega) rfl ?_
              refine TL.assign rfl rfl ?_
              refine TL.done ?_
              refine Lp.go ((i + 1, .slice av (Wk.pg S f.toNat k.toNat).length cv, n)) (by repeat (first | exact trivial | refine ⟨rfl, ?_⟩)) ?_ (by first | omega | (dsimp only; omega))
              refine ⟨by show i + 1 ≤ l.length; omega, by show n = (Wk.seen (l.take (i + 1)) u m).length; rw [hs1, hnS], ?_, hch.trans0 hc51⟩
              show Own w51 _ 33 6 _ (Wk.pg (Wk.seen (l.take (i + 1)) u m) f.toNat k.toNat).length _
              rw [hs1]; exact hown1
          ·
            have hnand : ¬ (i < l.length ∧ ((Wk.pg S f.toNat k.toNat).length : Int) < k) := by assumption
            have hfin : Wk.forL l u m f k = Wk.pg S f.toNat k.toNat := by
              rw [e2]
              rcases Nat.lt_or_ge i l.length with h | h
              · have hsp : Wk.seen l u m = S ++ Wk.seen (l.drop i) u m := by rw [← hS, ← Wk.seen_app, List.take_append_drop]
                rw [hsp]
                exact Wk.pg_full _ (by omega)
              · rw [← hS, List.take_of_length_le h]; rfl
            refine TC.exit ?_
            refine Thn.exit ?_
            refine Lp.exit ?_
            refine Blk.hit ?_
            refine Thn.go ?_
            refine TC.seq ?_
            refine TC.region ?_
            refine TL.move rfl rfl ?_
            refine TL.assign rfl rfl ?_
            refine TL.assign rfl rfl ?_
            refine TL.done ?_
            refine Thn.go ?_
            refine TC.ret ?_
            refine Ends.ret [10, 11] rfl rfl ?_
            exact ⟨_, by rw [e1]; rfl, by rw [hfin]; exact hown.base hc17.size, hc17.trans0 hch⟩

