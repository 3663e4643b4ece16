/-
  Walks through the given program: each theorem fnN says what the call of function N of the translation hands back, for all arguments that its premises describe, and that nothing that was there has turned.
-/
import Derived.Test.YtcoaophfojkldaaR5
namespace Go.Proofs.Ytcoaophfojkldaa
open Go.Lane
theorem can13 : Callable Try.prog 13 := ⟨Try.f13, Try.func13, by kernel_rfl, rfl⟩
theorem can14 : Callable Try.prog 14 := ⟨Try.f14, Try.func14, by kernel_rfl, rfl⟩
theorem can16 : Callable Try.prog 16 := ⟨Try.f16, Try.func16, by kernel_rfl, rfl⟩
theorem can17 : Callable Try.prog 17 := ⟨Try.f17, Try.func17, by kernel_rfl, rfl⟩
theorem can18 : Callable Try.prog 18 := ⟨Try.f18, Try.func18, by kernel_rfl, rfl⟩
theorem can20 : Callable Try.prog 20 := ⟨Try.f20, Try.func20, by kernel_rfl, rfl⟩
theorem can21 : Callable Try.prog 21 := ⟨Try.f21, Try.func21, by kernel_rfl, rfl⟩
section
open Go.ChangeShapes Go.WideShapes Go.RowKit Go.Deep
variable {H : Type} {enc : TypeId × Value → H} {w : World} {held : Bool}
theorem record_of {v : Value} {d : DataW H} {ps : List MemPlace} {r : Reach} {b0 : Nat} (hval : Value.okWide Try.prog w r b0 32 v) (hd : DataW.Trod enc Try.prog w 0 (fun _ => true) held 32 v d ps) : ∃ x : Audit.Record, v = .agg (cl x).toArray := by
  obtain ⟨cs, rfl, _⟩ := okWide_struct Try.underlying32 hval
  obtain ⟨fuel, hf⟩ := hd
  obtain ⟨x, hx⟩ := record_in hf
  exact ⟨x, by rw [← hx]; simp [Value.cells]⟩
end


theorem fn4 (a : Value) (l : List Audit.Record) (r : Audit.Record) (b : List UInt8) (x y : Int) (w : World) (ha : Rd w a 6 l.length (l.flatMap cl)) : Rets Try.prog 4 #[a, .agg (cl r).toArray, str b, .int .i64 x, .int .i64 y] w (fun v w' => v = .bool true ∧ Ch [] w w') := by
  obtain ⟨ad, c, rfl, _⟩ := ha.shape
  refine Rets.of (n := 158) (vs := [_, _, _, _, _]) Try.func4 rfl rfl rfl ?_
  refine TC.seq ?_
  refine TC.region ?_
  refine TL.box rfl rfl (fun w6 hb6 hc6 hz6 => ?_)
  replace hb6 : Has w6 w.heap.size (cl r).toArray 32 (0, 0) := hb6
  refine TL.assign rfl rfl ?_
  refine TL.done ?_
  refine Thn.go ?_
  refine TC.seq ?_
  refine TC.cut0 ([(0, .slice ad l.length c), (2, str b), (3, .int .i64 x), (4, .int .i64 y), (6, .pointer (some ⟨w.heap.size, 0, none⟩)), (42, .bool (decide (Audit.longP l ∨ Audit.longP [r] ∨ 3000 < b.length)))]) (fun w2 => Ch [] w6 w2) (fun K1 hK1 => ?_) (fun w2 hH => ?_)
  ·
    refine TC.region ?_
    refine TL.move rfl rfl ?_
    refine TL.call can8 rfl rfl (fn8 _ l _ (ha.ch0 hc6)) (fun v32 w32 hr32 => ?_)
    obtain ⟨rfl, rfl⟩ := hr32
    refine TL.em (fun e32 => ?_) (fun e32 => ?_)
    ·
      refine TL.move rfl rfl ?_
      refine TL.guardNo (d := 33) rfl rfl rfl rfl rfl ?_
      refine TL.guardNo (d := 33) rfl rfl rfl rfl rfl ?_
      refine TL.guardNo (d := 33) rfl rfl rfl rfl rfl ?_
      refine TL.pickT rfl rfl rfl rfl ?_
      refine TL.move rfl rfl ?_
      refine TL.guardNo (d := 38) rfl rfl rfl rfl rfl ?_
      refine TL.guardNo (d := 38) rfl rfl rfl rfl rfl ?_
      refine TL.guardNo (d := 38) rfl rfl rfl rfl rfl ?_
      refine TL.pickT rfl rfl rfl rfl ?_
      refine TL.done ?_
      exact hK1  _ _ (by repeat (first | exact trivial | refine ⟨rfl, ?_⟩ | refine ⟨congrArg (fun b => some (Value.bool b)) (by first | exact (decide_eq_true (by grind)).symm | exact (decide_eq_false (by grind)).symm | exact decide_eq_decide.2 (by grind) | exact decide_eq_true (by grind) | exact decide_eq_false (by grind) | (exfalso; grind)), ?_⟩)) (Ch.refl _ _)
    ·
      refine TL.move rfl rfl ?_
      refine TL.guardYes (d := 33) rfl rfl rfl ?_
      refine TL.loadAgg (cl r) ag32 rfl rfl (fun j _ => by rw [hb6.cell, Nat.zero_add, List.getElem?_toArray]) rfl ?_
      refine TL.guardYes (d := 33) rfl rfl rfl ?_
      refine TL.buildSlice [.tmp 34] sl22 rfl rfl rfl (by decide) (by first | simp [Value.cells]; done | simp [Value.cells, cl_len]; done) rfl (fun w35 hb35 hc35 hz35 => ?_)
      refine TL.guardYes (d := 33) rfl rfl rfl ?_
      refine TL.call can8 rfl rfl (fn8 _ [r] _ (recOne hb35)) (fun v36 w36 hr36 => ?_)
      obtain ⟨rfl, rfl⟩ := hr36
      refine TL.em (fun e36 => ?_) (fun e36 => ?_)
      ·
        refine TL.pickF rfl rfl rfl rfl ?_
        refine TL.move rfl rfl ?_
        refine TL.guardNo (d := 38) rfl rfl rfl rfl rfl ?_
        refine TL.guardNo (d := 38) rfl rfl rfl rfl rfl ?_
        refine TL.guardNo (d := 38) rfl rfl rfl rfl rfl ?_
        refine TL.pickT rfl rfl rfl rfl ?_
        refine TL.done ?_
        exact hK1  _ _ (by repeat (first | exact trivial | refine ⟨rfl, ?_⟩ | refine ⟨congrArg (fun b => some (Value.bool b)) (by first | exact (decide_eq_true (by grind)).symm | exact (decide_eq_false (by grind)).symm | exact decide_eq_decide.2 (by grind) | exact decide_eq_true (by grind) | exact decide_eq_false (by grind) | (exfalso; grind)), ?_⟩)) (hc35)
      ·
        refine TL.pickF rfl rfl rfl rfl ?_
        refine TL.move rfl rfl ?_
        refine TL.guardYes (d := 38) rfl rfl rfl ?_
        refine TL.move rfl rfl ?_
        refine TL.guardYes (d := 38) rfl rfl rfl ?_
        refine TL.lenStr Try.underlying9 rfl rfl ?_
        refine TL.guardYes (d := 38) rfl rfl rfl ?_
        refine TL.gtr rfl rfl rfl ?_
        refine TL.pickF rfl rfl rfl rfl ?_
        refine TL.done ?_
        exact hK1  _ _ (by repeat (first | exact trivial | refine ⟨rfl, ?_⟩ | refine ⟨congrArg (fun b => some (Value.bool b)) (by first | exact (decide_eq_true (by grind)).symm | exact (decide_eq_false (by grind)).symm | exact decide_eq_decide.2 (by grind) | exact decide_eq_true (by grind) | exact decide_eq_false (by grind) | (exfalso; grind)), ?_⟩)) (hc35)
  ·
    have q2 := hc6.trans0 hH
    refine TC.condP rfl (fun h4 => ?_) (fun h4 => ?_)
    ·
      refine TC.seq ?_
      refine TC.region ?_
      refine TL.assign rfl rfl ?_
      refine TL.done ?_
      refine Thn.go ?_
      refine TC.ret ?_
      refine Thn.ret ?_
      refine Ends.ret [10] rfl rfl ?_
      exact ⟨rfl, q2⟩
    ·
      have hno : ¬ (Audit.longP l ∨ Audit.longP [r] ∨ 3000 < b.length) := by assumption
      obtain ⟨hlen, hlh⟩ := Audit.not_long (l := l) (fun h => hno (.inl h))
      have hrh := Audit.long_one (r := r) (fun h => hno (.inr (.inl h)))
      have hbl : b.length ≤ 100000 := by omega
      have haa := ha.ch0 q2
      have hbb := hb6.ch0 hH
      refine TC.skip ?_
      refine Thn.go ?_
      refine TC.seq ?_
      refine TC.region ?_
      refine TL.move rfl rfl ?_
      refine TL.call can9 rfl rfl (fn9 _ l (by omega) _ haa) (fun v44 w44 hr44 => ?_)
      obtain ⟨⟨g41, c41, rfl⟩, hv41, hc41⟩ := hr44
      have hcap := (Rd.ofOwn hv41).cap
      refine TL.assign rfl rfl ?_
      refine TL.done ?_
      refine Thn.go ?_
      refine TC.seq ?_
      refine TC.region ?_
      refine TL.move rfl rfl ?_
      refine TL.move rfl rfl ?_
      refine TL.lenSlice Try.underlying22 rfl rfl ?_
      refine TL.sliceTo (l.length) sl22 rfl rfl (by first | rfl | omega) (by omega) rfl ?_
      have ho := own_prefix hv41 (by omega)
      refine TL.assign rfl rfl ?_
      refine TL.done ?_
      refine Thn.go ?_
      refine TC.seq ?_
      refine TC.region ?_
      refine TL.loadAgg (cl r) ag32 rfl rfl (fun j _ => by rw [(hbb.ch0 hc41).cell, Nat.zero_add, List.getElem?_toArray]) rfl ?_
      refine TL.move rfl rfl ?_
      refine TL.call can13 rfl rfl (fn13 r b hrh hbl w44) (fun v52 w52 hr52 => ?_)
      obtain ⟨rfl, hc52⟩ := hr52
      refine TL.move rfl rfl ?_
      refine TL.extract rfl rfl rfl ?_
      refine TL.extract rfl rfl rfl ?_
      refine TL.assign rfl rfl ?_
      refine TL.assign rfl rfl ?_
      refine TL.done ?_
      refine Thn.go ?_
      refine TC.seq ?_
      refine TC.region ?_
      refine TL.loadAgg (cl r) ag32 rfl rfl (fun j _ => by rw [((hbb.ch0 hc41).ch0 hc52).cell, Nat.zero_add, List.getElem?_toArray]) rfl ?_
      refine TL.move rfl rfl ?_
      refine TL.call can14 rfl rfl (fn14 r b hrh hbl w52) (fun v58 w58 hr58 => ?_)
      obtain ⟨rfl, hc58⟩ := hr58
      have q58 := hc52.trans0 hc58
      refine TL.move rfl rfl ?_
      refine TL.extract rfl rfl rfl ?_
      refine TL.extract rfl rfl rfl ?_
      refine TL.assign rfl rfl ?_
      refine TL.assign rfl rfl ?_
      refine TL.done ?_
      refine Thn.go ?_
      refine TC.seq ?_
      refine TC.region ?_
      refine TL.move rfl rfl ?_
      refine TL.call can15 rfl rfl (fn15 _ l w58 (ho.ch0 q58) hlh) (fun v63 w63 hr63 => ?_)
      obtain ⟨rfl, hc63⟩ := hr63
      have q63 := q58.trans0 hc63
      refine TL.move rfl rfl ?_
      refine TL.extract rfl rfl rfl ?_
      refine TL.extract rfl rfl rfl ?_
      refine TL.assign rfl rfl ?_
      refine TL.assign rfl rfl ?_
      refine TL.done ?_
      refine Thn.go ?_
      refine TC.seq ?_
      refine TC.region ?_
      refine TL.move rfl rfl ?_
      refine TL.call can16 rfl rfl (fn16 _ l w63 ((haa.ch0 hc41).ch0 q63) hlh) (fun v68 w68 hr68 => ?_)
      obtain ⟨rfl, hc68⟩ := hr68
      have q68 := q63.trans0 hc68
      refine TL.move rfl rfl ?_
      refine TL.extract rfl rfl rfl ?_
      refine TL.extract rfl rfl rfl ?_
      refine TL.assign rfl rfl ?_
      refine TL.assign rfl rfl ?_
      refine TL.done ?_
      refine Thn.go ?_
      refine TC.seq ?_
      refine TC.region ?_
      refine TL.move rfl rfl ?_
      refine TL.move rfl rfl ?_
      refine TL.move rfl rfl ?_
      refine TL.call can17 rfl rfl (fn17 _ l x y w68 (ho.ch0 q68) hlh) (fun v75 w75 hr75 => ?_)
      obtain ⟨r75, rfl, hv75, hc75⟩ := hr75
      have q75 := q68.trans0 hc75
      refine TL.move rfl rfl ?_
      refine TL.extract rfl rfl rfl ?_
      refine TL.extract rfl rfl rfl ?_
      refine TL.assign rfl rfl ?_
      refine TL.assign rfl rfl ?_
      refine TL.done ?_
      refine Thn.go ?_
      refine TC.seq ?_
      refine TC.region ?_
      refine TL.move rfl rfl ?_
      refine TL.move rfl rfl ?_
      refine TL.move rfl rfl ?_
      refine TL.call can18 rfl rfl (fn18 _ l x y w75 ((haa.ch0 hc41).ch0 q75) hlh) (fun v82 w82 hr82 => ?_)
      obtain ⟨r82, rfl, hv82, hc82⟩ := hr82
      have q82 := q75.trans0 hc82
      refine TL.move rfl rfl ?_
      refine TL.extract rfl rfl rfl ?_
      refine TL.extract rfl rfl rfl ?_
      refine TL.assign rfl rfl ?_
      refine TL.assign rfl rfl ?_
      refine TL.done ?_
      refine Thn.go ?_
      refine TC.seq ?_
      refine TC.region ?_
      refine TL.move rfl rfl ?_
      refine TL.call can19 rfl rfl (fn19 _ l w82 (ho.ch0 q82) hlh) (fun v87 w87 hr87 => ?_)
      obtain ⟨rfl, hc87⟩ := hr87
      have q87 := q82.trans0 hc87
      refine TL.move rfl rfl ?_
      refine TL.extract rfl rfl rfl ?_
      refine TL.extract rfl rfl rfl ?_
      refine TL.assign rfl rfl ?_
      refine TL.assign rfl rfl ?_
      refine TL.done ?_
      refine Thn.go ?_
      refine TC.seq ?_
      refine TC.region ?_
      refine TL.move rfl rfl ?_
      refine TL.call can20 rfl rfl (fn20 _ l w87 ((haa.ch0 hc41).ch0 q87) hlh) (fun v92 w92 hr92 => ?_)
      obtain ⟨rfl, hc92⟩ := hr92
      have q92 := q87.trans0 hc92
      have hv92 := ((hv75.ch0 hc82).ch0 hc87).ch0 hc92
      have hu92 := (hv82.ch0 hc87).ch0 hc92
      obtain ⟨N, hN⟩ : ∃ N, Audit.rangeL l x y = N := ⟨_, rfl⟩
      rw [hN] at hv92 hu92
      obtain ⟨a52, c52, rfl⟩ := hv92.shape
      have hNm := (Rd.ofOwn hv92).nlt
      have hmm : maxLen = 9223372036854775807 := rfl
      refine TL.move rfl rfl ?_
      refine TL.extract rfl rfl rfl ?_
      refine TL.extract rfl rfl rfl ?_
      refine TL.assign rfl rfl ?_
      refine TL.assign rfl rfl ?_
      refine TL.done ?_
      refine Thn.go ?_
      refine TC.seq ?_
      refine TC.region ?_
      refine TL.move rfl rfl ?_
      refine TL.move rfl rfl ?_
      refine TL.eqlStr rfl rfl rfl ?_
      refine TL.yes (rfl) ?_
      refine TL.move rfl rfl ?_
      refine TL.guardYes (d := 98) rfl rfl rfl ?_
      refine TL.move rfl rfl ?_
      refine TL.guardYes (d := 98) rfl rfl rfl ?_
      refine TL.move rfl rfl ?_
      refine TL.guardYes (d := 98) rfl rfl rfl ?_
      refine TL.eql rfl rfl rfl ?_
      refine TL.yes (rfl) ?_
      refine TL.pickT rfl rfl rfl rfl ?_
      refine TL.move rfl rfl ?_
      refine TL.guardYes (d := 103) rfl rfl rfl ?_
      refine TL.move rfl rfl ?_
      refine TL.guardYes (d := 103) rfl rfl rfl ?_
      refine TL.move rfl rfl ?_
      refine TL.guardYes (d := 103) rfl rfl rfl ?_
      refine TL.eql rfl rfl rfl ?_
      refine TL.yes (rfl) ?_
      refine TL.pickT rfl rfl rfl rfl ?_
      refine TL.move rfl rfl ?_
      refine TL.guardYes (d := 108) rfl rfl rfl ?_
      refine TL.move rfl rfl ?_
      refine TL.guardYes (d := 108) rfl rfl rfl ?_
      refine TL.move rfl rfl ?_
      refine TL.guardYes (d := 108) rfl rfl rfl ?_
      refine TL.eql rfl rfl rfl ?_
      refine TL.yes (rfl) ?_
      refine TL.pickT rfl rfl rfl rfl ?_
      refine TL.move rfl rfl ?_
      refine TL.guardYes (d := 113) rfl rfl rfl ?_
      refine TL.move rfl rfl ?_
      refine TL.guardYes (d := 113) rfl rfl rfl ?_
      refine TL.move rfl rfl ?_
      refine TL.guardYes (d := 113) rfl rfl rfl ?_
      refine TL.eql rfl rfl rfl ?_
      refine TL.yes (rfl) ?_
      refine TL.pickT rfl rfl rfl rfl ?_
      refine TL.move rfl rfl ?_
      refine TL.guardYes (d := 118) rfl rfl rfl ?_
      refine TL.move rfl rfl ?_
      refine TL.guardYes (d := 118) rfl rfl rfl ?_
      refine TL.move rfl rfl ?_
      refine TL.guardYes (d := 118) rfl rfl rfl ?_
      refine TL.call can12 rfl rfl (fn12 _ _ _ _ w92 (Rd.ofOwn hv92) (Rd.ofOwn hu92)) (fun v121 w121 hr121 => ?_)
      obtain ⟨rfl, hc121⟩ := hr121
      refine TL.yes (rfl) ?_
      refine TL.pickT rfl rfl rfl rfl ?_
      refine TL.move rfl rfl ?_
      refine TL.guardYes (d := 123) rfl rfl rfl ?_
      refine TL.move rfl rfl ?_
      refine TL.guardYes (d := 123) rfl rfl rfl ?_
      refine TL.move rfl rfl ?_
      refine TL.guardYes (d := 123) rfl rfl rfl ?_
      refine TL.eqlStr rfl rfl rfl ?_
      refine TL.yes (rfl) ?_
      refine TL.pickT rfl rfl rfl rfl ?_
      refine TL.move rfl rfl ?_
      refine TL.guardYes (d := 128) rfl rfl rfl ?_
      refine TL.move rfl rfl ?_
      refine TL.guardYes (d := 128) rfl rfl rfl ?_
      refine TL.move rfl rfl ?_
      refine TL.guardYes (d := 128) rfl rfl rfl ?_
      refine TL.eql rfl rfl rfl ?_
      refine TL.yes (rfl) ?_
      refine TL.pickT rfl rfl rfl rfl ?_
      refine TL.assign rfl rfl ?_
      refine TL.done ?_
      refine Thn.go ?_
      refine TC.seq ?_
      refine TC.seq ?_
      refine TC.region ?_
      refine TL.assign rfl rfl ?_
      refine TL.done ?_
      refine Thn.go ?_
      refine TC.block ?_
      refine TC.loop1 (fun (i : Nat) => [(0, .slice ad l.length c), (11, .slice (some ⟨g41, 0, none⟩) (l.length + 1) c41), (12, .slice (some ⟨g41, 0, none⟩) l.length c41), (21, .slice a52 N.length c52), (29, .bool true), (30, .int .i64 (i : Int))]) (fun i w' => i ≤ N.length ∧ (∃ N' : List Audit.Record, N'.length = N.length ∧ Own w' w68.heap.size 32 6 (.slice a52 N.length c52) N.length (N'.flatMap cl)) ∧ Ch [] w68 w') (fun i => N.length - i) 0 (by repeat (first | exact trivial | refine ⟨rfl, ?_⟩)) (⟨by omega, ⟨N, rfl, hv92.ch0 hc121⟩, (((hc75.trans0 hc82).trans0 hc87).trans0 hc92).trans0 hc121⟩) (fun i w' hH => ?_)
      obtain ⟨hi, ⟨N', hN', hown⟩, hch⟩ := hH
      refine TC.seq ?_
      refine TC.seq ?_
      refine TC.region ?_
      refine TL.move rfl rfl ?_
      refine TL.move rfl rfl ?_
      refine TL.lenSlice Try.underlying22 rfl rfl ?_
      refine TL.lss rfl rfl rfl ?_
      refine TL.done ?_
      refine Thn.go ?_
      refine TC.condP rfl (fun h5 => ?_) (fun h5 => ?_)
      ·
        have hil : i < N.length := by omega
        obtain ⟨gs, cs, e⟩ := hown.form (by omega)
        cases e
        rw [← hN'] at hown
        obtain ⟨cur, hcur, hcsz, hcn, _, hgb, _⟩ := hown.has
        refine TC.skip ?_
        refine Thn.go ?_
        refine TC.seq ?_
        refine TC.block ?_
        refine TC.region ?_
        refine TL.move rfl rfl ?_
        refine TL.move rfl rfl ?_
        refine TL.buildRec [2] [.const (Value.string {data := #[55, 55]})] (cl r77) rfl rfl (by kernel_rfl) rfl ?_
        refine TL.indexAddr (i) sl22 rfl rfl (by first | rfl | omega) (by omega) rfl ?_
        refine TL.store sz32 rfl rfl rfl hcur (by rw [hcsz]; have := Nat.mul_le_mul_right 6 (show i + 1 ≤ c52 by omega); omega) (by simpa [Value.cells] using cl_one r77) (.inl rfl) (fun ws1 hbs1 hcs1 hzs1 => ?_)
        have hown2 := hown.setRec cl_len hcur (k := i) (x := r77) (by omega) hbs1
        rw [hN'] at hown2
        refine TL.done ?_
        refine Blk.go ?_
        refine Thn.go ?_
        refine TC.region ?_
        refine TL.move rfl rfl ?_
        refine TL.add_i64 rfl rfl (by omega) (by omega) rfl ?_
        refine TL.assign rfl rfl ?_
        refine TL.done ?_
        refine Lp.go (i + 1) (by repeat (first | exact trivial | refine ⟨rfl, ?_⟩)) ?_ (by first | omega | (dsimp only; omega))
        exact ⟨by omega, ⟨N'.set i r77, by rw [List.length_set, hN'], hown2⟩, hch.then1 hcs1 hgb⟩
      ·
        have q0 : Ch [] w44 w' := q68.trans0 hch
        refine TC.exit ?_
        refine Thn.exit ?_
        refine Lp.exit ?_
        refine Blk.hit ?_
        refine Thn.go ?_
        refine TC.seq ?_
        refine TC.region ?_
        refine TL.move rfl rfl ?_
        refine TL.move rfl rfl ?_
        refine TL.guardYes (d := 144) rfl rfl rfl ?_
        refine TL.move rfl rfl ?_
        refine TL.guardYes (d := 144) rfl rfl rfl ?_
        refine TL.move rfl rfl ?_
        refine TL.guardYes (d := 144) rfl rfl rfl ?_
        refine TL.call can12 rfl rfl (fn12 _ _ l l w' (ho.ch0 q0) ((haa.ch0 hc41).ch0 q0)) (fun v147 w147 hr147 => ?_)
        obtain ⟨rfl, hc147⟩ := hr147
        refine TL.yes (rfl) ?_
        refine TL.pickT rfl rfl rfl rfl ?_
        refine TL.move rfl rfl ?_
        refine TL.guardYes (d := 149) rfl rfl rfl ?_
        refine TL.move rfl rfl ?_
        refine TL.guardYes (d := 149) rfl rfl rfl ?_
        refine TL.move rfl rfl ?_
        refine TL.guardYes (d := 149) rfl rfl rfl ?_
        refine TL.lenSlice Try.underlying22 rfl rfl ?_
        refine TL.guardYes (d := 149) rfl rfl rfl ?_
        refine TL.indexAddr (l.length) sl22 rfl rfl (by first | rfl | omega) (by omega) rfl ?_
        refine TL.guardYes (d := 149) rfl rfl rfl ?_
        refine TL.loadAgg (cl r77) ag32 rfl rfl (fun j hj => by obtain ⟨b', o', e, hh⟩ := recAt (i := l.length) (l := l ++ [r77]) (by rw [List.length_append]; exact ((Rd.ofOwn hv41).ch0 q0).ch0 hc147) (by simp); cases e; rw [Audit.rec_last] at hh; exact hh j hj) rfl ?_
        refine TL.guardYes (d := 149) rfl rfl rfl ?_
        refine TL.buildRec [2] [.const (Value.string {data := #[55, 55]})] (cl r77) rfl rfl (by kernel_rfl) rfl ?_
        refine TL.guardYes (d := 149) rfl rfl rfl ?_
        refine TL.eqlAgg gd32 (eqRecord _ _ _) rfl rfl rfl ?_
        refine TL.yes (rfl) ?_
        refine TL.pickT rfl rfl rfl rfl ?_
        refine TL.assign rfl rfl ?_
        refine TL.done ?_
        refine Thn.go ?_
        refine TC.ret ?_
        refine Ends.ret [10] rfl rfl ?_
        exact ⟨rfl, ((q2.trans0 hc41).trans0 q0).trans0 hc147⟩

theorem fn5 (a : Value) (l : List Audit.Record) (t : Int) (u d : List UInt8) (o : Int) (w : World) (ha : Rd w a 6 l.length (l.flatMap cl)) : Rets Try.prog 5 #[a, .int .i64 t, str u, str d, .int .i64 o] w (fun v w' => v = .bool true ∧ Ch [] w w') := by
  obtain ⟨ad, c, rfl, _⟩ := ha.shape
  have hmx : l.length ≤ 9223372036854775807 := ha.nlt
  refine Rets.of (n := 197) (vs := [_, _, _, _, _]) Try.func5 rfl rfl rfl ?_
  refine TC.seq ?_
  refine TC.region ?_
  refine TL.assign rfl rfl ?_
  refine TL.done ?_
  refine Thn.go ?_
  refine TC.seq ?_
  refine TC.region ?_
  refine TL.call can21 rfl rfl (fn21 w) (fun v22 w22 hr22 => ?_)
  obtain ⟨rfl, hc22⟩ := hr22
  refine TL.assign rfl rfl ?_
  refine TL.done ?_
  refine Thn.go ?_
  refine TC.seq ?_
  refine TC.cut0 ([(0, .slice ad l.length c), (1, .int .i64 t), (2, str u), (3, str d), (4, .int .i64 o), (11, .bool true), (43, .bool (decide (Audit.longP l ∨ 60 < l.length ∨ 3000 < u.length ∨ 3000 < d.length)))]) (fun w2 => w2 = w22) (fun K1 hK1 => ?_) (fun w2 hH => ?_)
  ·
    refine TC.region ?_
    refine TL.move rfl rfl ?_
    refine TL.call can8 rfl rfl (fn8 _ l _ (ha.ch0 hc22)) (fun v24 w24 hr24 => ?_)
    obtain ⟨rfl, rfl⟩ := hr24
    refine TL.em (fun e24 => ?_) (fun e24 => ?_)
    ·
      refine TL.move rfl rfl ?_
      refine TL.guardNo (d := 25) rfl rfl rfl rfl rfl ?_
      refine TL.guardNo (d := 25) rfl rfl rfl rfl rfl ?_
      refine TL.guardNo (d := 25) rfl rfl rfl rfl rfl ?_
      refine TL.pickT rfl rfl rfl rfl ?_
      refine TL.move rfl rfl ?_
      refine TL.guardNo (d := 30) rfl rfl rfl rfl rfl ?_
      refine TL.guardNo (d := 30) rfl rfl rfl rfl rfl ?_
      refine TL.guardNo (d := 30) rfl rfl rfl rfl rfl ?_
      refine TL.pickT rfl rfl rfl rfl ?_
      refine TL.move rfl rfl ?_
      refine TL.guardNo (d := 35) rfl rfl rfl rfl rfl ?_
      refine TL.guardNo (d := 35) rfl rfl rfl rfl rfl ?_
      refine TL.guardNo (d := 35) rfl rfl rfl rfl rfl ?_
      refine TL.pickT rfl rfl rfl rfl ?_
      refine TL.move rfl rfl ?_
      refine TL.guardNo (d := 40) rfl rfl rfl rfl rfl ?_
      refine TL.guardNo (d := 40) rfl rfl rfl rfl rfl ?_
      refine TL.pickT rfl rfl rfl rfl ?_
      refine TL.done ?_
      exact hK1  _ _ (by repeat (first | exact trivial | refine ⟨rfl, ?_⟩ | refine ⟨congrArg (fun b => some (Value.bool b)) (by first | exact (decide_eq_true (by grind)).symm | exact (decide_eq_false (by grind)).symm | exact decide_eq_decide.2 (by grind) | exact decide_eq_true (by grind) | exact decide_eq_false (by grind) | (exfalso; grind)), ?_⟩)) (rfl)
    ·
      refine TL.move rfl rfl ?_
      refine TL.guardYes (d := 25) rfl rfl rfl ?_
      refine TL.move rfl rfl ?_
      refine TL.guardYes (d := 25) rfl rfl rfl ?_
      refine TL.lenSlice Try.underlying22 rfl rfl ?_
      refine TL.guardYes (d := 25) rfl rfl rfl ?_
      refine TL.gtr rfl rfl rfl ?_
      refine TL.em (fun e28 => ?_) (fun e28 => ?_)
      ·
        refine TL.pickF rfl rfl rfl rfl ?_
        refine TL.move rfl rfl ?_
        refine TL.guardNo (d := 30) rfl rfl rfl rfl rfl ?_
        refine TL.guardNo (d := 30) rfl rfl rfl rfl rfl ?_
        refine TL.guardNo (d := 30) rfl rfl rfl rfl rfl ?_
        refine TL.pickT rfl rfl rfl rfl ?_
        refine TL.move rfl rfl ?_
        refine TL.guardNo (d := 35) rfl rfl rfl rfl rfl ?_
        refine TL.guardNo (d := 35) rfl rfl rfl rfl rfl ?_
        refine TL.guardNo (d := 35) rfl rfl rfl rfl rfl ?_
        refine TL.pickT rfl rfl rfl rfl ?_
        refine TL.move rfl rfl ?_
        refine TL.guardNo (d := 40) rfl rfl rfl rfl rfl ?_
        refine TL.guardNo (d := 40) rfl rfl rfl rfl rfl ?_
        refine TL.pickT rfl rfl rfl rfl ?_
        refine TL.done ?_
        exact hK1  _ _ (by repeat (first | exact trivial | refine ⟨rfl, ?_⟩ | refine ⟨congrArg (fun b => some (Value.bool b)) (by first | exact (decide_eq_true (by grind)).symm | exact (decide_eq_false (by grind)).symm | exact decide_eq_decide.2 (by grind) | exact decide_eq_true (by grind) | exact decide_eq_false (by grind) | (exfalso; grind)), ?_⟩)) (rfl)
      ·
        refine TL.pickF rfl rfl rfl rfl ?_
        refine TL.move rfl rfl ?_
        refine TL.guardYes (d := 30) rfl rfl rfl ?_
        refine TL.move rfl rfl ?_
        refine TL.guardYes (d := 30) rfl rfl rfl ?_
        refine TL.lenStr Try.underlying9 rfl rfl ?_
        refine TL.guardYes (d := 30) rfl rfl rfl ?_
        refine TL.gtr rfl rfl rfl ?_
        refine TL.em (fun e33 => ?_) (fun e33 => ?_)
        ·
          refine TL.pickF rfl rfl rfl rfl ?_
          refine TL.move rfl rfl ?_
          refine TL.guardNo (d := 35) rfl rfl rfl rfl rfl ?_
          refine TL.guardNo (d := 35) rfl rfl rfl rfl rfl ?_
          refine TL.guardNo (d := 35) rfl rfl rfl rfl rfl ?_
          refine TL.pickT rfl rfl rfl rfl ?_
          refine TL.move rfl rfl ?_
          refine TL.guardNo (d := 40) rfl rfl rfl rfl rfl ?_
          refine TL.guardNo (d := 40) rfl rfl rfl rfl rfl ?_
          refine TL.pickT rfl rfl rfl rfl ?_
          refine TL.done ?_
          exact hK1  _ _ (by repeat (first | exact trivial | refine ⟨rfl, ?_⟩ | refine ⟨congrArg (fun b => some (Value.bool b)) (by first | exact (decide_eq_true (by grind)).symm | exact (decide_eq_false (by grind)).symm | exact decide_eq_decide.2 (by grind) | exact decide_eq_true (by grind) | exact decide_eq_false (by grind) | (exfalso; grind)), ?_⟩)) (rfl)
        ·
          refine TL.pickF rfl rfl rfl rfl ?_
          refine TL.move rfl rfl ?_
          refine TL.guardYes (d := 35) rfl rfl rfl ?_
          refine TL.move rfl rfl ?_
          refine TL.guardYes (d := 35) rfl rfl rfl ?_
          refine TL.lenStr Try.underlying9 rfl rfl ?_
          refine TL.guardYes (d := 35) rfl rfl rfl ?_
          refine TL.gtr rfl rfl rfl ?_
          refine TL.em (fun e38 => ?_) (fun e38 => ?_)
          ·
            refine TL.pickF rfl rfl rfl rfl ?_
            refine TL.move rfl rfl ?_
            refine TL.guardNo (d := 40) rfl rfl rfl rfl rfl ?_
            refine TL.guardNo (d := 40) rfl rfl rfl rfl rfl ?_
            refine TL.pickT rfl rfl rfl rfl ?_
            refine TL.done ?_
            exact hK1  _ _ (by repeat (first | exact trivial | refine ⟨rfl, ?_⟩ | refine ⟨congrArg (fun b => some (Value.bool b)) (by first | exact (decide_eq_true (by grind)).symm | exact (decide_eq_false (by grind)).symm | exact decide_eq_decide.2 (by grind) | exact decide_eq_true (by grind) | exact decide_eq_false (by grind) | (exfalso; grind)), ?_⟩)) (rfl)
          ·
            refine TL.pickF rfl rfl rfl rfl ?_
            refine TL.move rfl rfl ?_
            refine TL.guardYes (d := 40) rfl rfl rfl ?_
            refine TL.move rfl rfl ?_
            refine TL.guardYes (d := 40) rfl rfl rfl ?_
            refine TL.not rfl rfl ?_
            refine TL.pickF rfl rfl rfl rfl ?_
            refine TL.done ?_
            exact hK1  _ _ (by repeat (first | exact trivial | refine ⟨rfl, ?_⟩ | refine ⟨congrArg (fun b => some (Value.bool b)) (by first | exact (decide_eq_true (by grind)).symm | exact (decide_eq_false (by grind)).symm | exact decide_eq_decide.2 (by grind) | exact decide_eq_true (by grind) | exact decide_eq_false (by grind) | (exfalso; grind)), ?_⟩)) (rfl)
  ·
    subst hH
    refine TC.condP rfl (fun h6 => ?_) (fun h6 => ?_)
    ·
      refine TC.seq ?_
      refine TC.region ?_
      refine TL.move rfl rfl ?_
      refine TL.assign rfl rfl ?_
      refine TL.done ?_
      refine Thn.go ?_
      refine TC.ret ?_
      refine Thn.ret ?_
      refine Ends.ret [10] rfl rfl ?_
      exact ⟨rfl, hc22⟩
    ·
      have hno : ¬ (Audit.longP l ∨ 60 < l.length ∨ 3000 < u.length ∨ 3000 < d.length) := by assumption
      obtain ⟨_, hlh⟩ := Audit.not_long (l := l) (fun h => hno (.inl h))
      have hlen : l.length ≤ 60 := by omega
      have haa := ha.ch0 hc22
      refine TC.skip ?_
      refine Thn.go ?_
      refine TC.seq ?_
      refine TC.region ?_
      refine TL.move rfl rfl ?_
      refine TL.call can15 rfl rfl (fn15 _ l _ haa hlh) (fun v47 w47 hr47 => ?_)
      obtain ⟨rfl, hc47⟩ := hr47
      refine TL.move rfl rfl ?_
      refine TL.extract rfl rfl rfl ?_
      refine TL.extract rfl rfl rfl ?_
      refine TL.assign rfl rfl ?_
      refine TL.assign rfl rfl ?_
      refine TL.done ?_
      refine Thn.go ?_
      refine TC.seq ?_
      refine TC.region ?_
      refine TL.move rfl rfl ?_
      refine TL.move rfl rfl ?_
      refine TL.move rfl rfl ?_
      refine TL.move rfl rfl ?_
      refine TL.move rfl rfl ?_
      refine TL.call can10 rfl rfl (fn10 _ l t u d o w47 (haa.ch0 hc47) hlh) (fun v56 w56 hr56 => ?_)
      obtain ⟨r56, rfl, hv56, hc56⟩ := hr56
      have q56 := hc47.trans0 hc56
      obtain ⟨N, hN⟩ : ∃ N, Audit.nextL l t u d o = N := ⟨_, rfl⟩
      obtain ⟨E, hE⟩ : ∃ E, Audit.nextE l t u d o = E := ⟨_, rfl⟩
      rw [hN] at hv56
      rw [hE]
      obtain ⟨a52, c52, rfl⟩ := hv56.shape
      have hNE : E ≠ 0 → N.length = 0 := fun h => by rw [← hN, next_none (by rw [hE]; exact h)]; rfl
      refine TL.move rfl rfl ?_
      refine TL.extract rfl rfl rfl ?_
      refine TL.extract rfl rfl rfl ?_
      refine TL.assign rfl rfl ?_
      refine TL.assign rfl rfl ?_
      refine TL.done ?_
      refine Thn.go ?_
      refine TC.seq ?_
      refine TC.regionBool (d := 64) (p := (Audit.askedE l ≠ 0 ∨ 0 ≤ Audit.checkN l)) (fun K7 hK7 => ?_) ?_
      ·
        refine TL.move rfl rfl ?_
        refine TL.neq rfl rfl rfl ?_
        refine TL.em (fun e60 => ?_) (fun e60 => ?_)
        ·
          refine TL.move rfl rfl ?_
          refine TL.guardNo (d := 61) rfl rfl rfl rfl rfl ?_
          refine TL.guardNo (d := 61) rfl rfl rfl rfl rfl ?_
          refine TL.pickT rfl rfl rfl rfl ?_
          refine TL.done ?_
          refine hK7 _ ?_
          refine Le.here rfl (by first | exact decide_eq_true (by omega) | exact decide_eq_false (by omega) | exact decide_eq_decide.2 (by omega) | exact decide_eq_true (by grind) | exact decide_eq_false (by grind) | exact decide_eq_decide.2 (by grind)) ?_
          repeat (first | exact Le.refl _ | refine Le.skip rfl ?_)
        ·
          refine TL.move rfl rfl ?_
          refine TL.guardYes (d := 61) rfl rfl rfl ?_
          refine TL.move rfl rfl ?_
          refine TL.guardYes (d := 61) rfl rfl rfl ?_
          refine TL.geq rfl rfl rfl ?_
          refine TL.pickF rfl rfl rfl rfl ?_
          refine TL.done ?_
          refine hK7 _ ?_
          refine Le.here rfl (by first | exact decide_eq_true (by omega) | exact decide_eq_false (by omega) | exact decide_eq_decide.2 (by omega) | exact decide_eq_true (by grind) | exact decide_eq_false (by grind) | exact decide_eq_decide.2 (by grind)) ?_
          repeat (first | exact Le.refl _ | refine Le.skip rfl ?_)
      refine TC.condP rfl (fun h9 => ?_) (fun h9 => ?_)
      ·
        have hor : Audit.askedE l ≠ 0 ∨ 0 ≤ Audit.checkN l := by assumption
        have hE0 : (E : Int) ≠ 0 ∧ (N.length : Int) = 0 := by
          have : E ≠ 0 := by
            intro h0
            rw [← hE, Audit.nextE] at h0
            by_cases hk : Audit.askedE l = 0
            · have h5 : 0 ≤ Audit.firstI l := by rcases hor with h | h; exact absurd hk h; rw [Audit.checkN, if_pos hk] at h; exact h
              simp only [hk, ne_eq, not_true_eq_false, if_false, h5, true_or, if_true] at h0
              split at h0 <;> (try omega)
              split at h0 <;> (try omega)
              split at h0 <;> (try omega)
              split at h0 <;> (try omega)
            · rw [if_pos hk] at h0; exact hk h0
          exact ⟨by omega, by have := hNE this; omega⟩
        refine TC.seq ?_
        refine TC.region ?_
        refine TL.move rfl rfl ?_
        refine TL.neq rfl rfl rfl ?_
        refine TL.yes (hE0.1) ?_
        refine TL.move rfl rfl ?_
        refine TL.guardYes (d := 67) rfl rfl rfl ?_
        refine TL.move rfl rfl ?_
        refine TL.guardYes (d := 67) rfl rfl rfl ?_
        refine TL.lenSlice Try.underlying22 rfl rfl ?_
        refine TL.guardYes (d := 67) rfl rfl rfl ?_
        refine TL.eql rfl rfl rfl ?_
        refine TL.yes (hE0.2) ?_
        refine TL.pickT rfl rfl rfl rfl ?_
        refine TL.assign rfl rfl ?_
        refine TL.done ?_
        refine Thn.go ?_
        refine TC.ret ?_
        refine Thn.ret ?_
        refine Ends.ret [10] rfl rfl ?_
        exact ⟨rfl, hc22.trans0 q56⟩
      ·
        have hor : ¬ (Audit.askedE l ≠ 0 ∨ 0 ≤ Audit.checkN l) := by assumption
        have hk : Audit.askedE l = 0 := by omega
        have hfn : ¬ 0 ≤ Audit.firstI l := fun h => hor (.inr (by rw [Audit.checkN, if_pos hk]; exact h))
        refine TC.skip ?_
        refine Thn.go ?_
        refine TC.seq ?_
        refine TC.seq ?_
        refine TC.region ?_
        refine TL.move rfl rfl ?_
        refine TL.neq rfl rfl rfl ?_
        refine TL.done ?_
        refine Thn.go ?_
        refine TC.condP rfl (fun h10 => ?_) (fun h10 => ?_)
        ·
          have hEn : E ≠ 0 := by omega
          have hlast : 0 < l.length → ∀ j, j < 6 → ∃ b2 o2, ad = some ⟨b2, o2, none⟩ ∧ w56.cell? ⟨b2, o2 + (l.length - 1) * 6 + j, none⟩ = (cl (Audit.rec l (l.length - 1)))[j]? := fun h0 j hj => by obtain ⟨b2, o2, e, hh⟩ := recAt (i := l.length - 1) (haa.ch0 q56) (by omega); exact ⟨b2, o2, e, hh j hj⟩
          have hdis : t < 0 ∨ 1099511627776 < t ∨ o < 100 ∨ 599 < o ∨ 32 < u.length ∨ (0 < l.length ∧ t < (Audit.rec l (l.length - 1)).at_) := by
            rw [← hE, Audit.nextE] at hEn
            simp only [hk, ne_eq, not_true_eq_false, if_false, hfn, false_or] at hEn
            by_cases k1 : t < 0 ∨ 1099511627776 < t
            · omega
            · by_cases k2 : o < 100 ∨ 599 < o
              · omega
              · by_cases k3 : 32 < u.length
                · omega
                · rw [if_neg k1, if_neg (by omega), if_neg k2, if_neg (by omega)] at hEn
                  by_cases k4 : 0 < l.length ∧ t < (Audit.rec l (l.length - 1)).at_
                  · omega
                  · rw [if_neg k4] at hEn; exact absurd rfl hEn
          refine TC.cut0 ([(10, .bool true)]) (fun w2 => w2 = w56) (fun K11 hK11 => ?_) (fun w2 hH => ?_)
          ·
            refine TC.region ?_
            refine TL.move rfl rfl ?_
            refine TL.lenSlice Try.underlying22 rfl rfl ?_
            refine TL.eql rfl rfl rfl ?_
            refine TL.yes (by have := hNE hEn; omega) ?_
            refine TL.move rfl rfl ?_
            refine TL.guardYes (d := 77) rfl rfl rfl ?_
            refine TL.move rfl rfl ?_
            refine TL.guardYes (d := 77) rfl rfl rfl ?_
            refine TL.lss rfl rfl rfl ?_
            refine TL.em (fun e79 => ?_) (fun e79 => ?_)
            ·
              refine TL.guardYes (d := 77) rfl rfl rfl ?_
              refine TL.move rfl rfl ?_
              refine TL.guardNo (d := 80) rfl rfl rfl rfl rfl ?_
              refine TL.guardNo (d := 80) rfl rfl rfl rfl rfl ?_
              refine TL.guardYes (d := 77) rfl rfl rfl ?_
              refine TL.pickT rfl rfl rfl rfl ?_
              refine TL.guardYes (d := 77) rfl rfl rfl ?_
              refine TL.move rfl rfl ?_
              refine TL.guardNo (d := 84) rfl rfl rfl rfl rfl ?_
              refine TL.guardNo (d := 84) rfl rfl rfl rfl rfl ?_
              refine TL.guardYes (d := 77) rfl rfl rfl ?_
              refine TL.pickT rfl rfl rfl rfl ?_
              refine TL.guardYes (d := 77) rfl rfl rfl ?_
              refine TL.move rfl rfl ?_
              refine TL.guardNo (d := 88) rfl rfl rfl rfl rfl ?_
              refine TL.guardNo (d := 88) rfl rfl rfl rfl rfl ?_
              refine TL.guardYes (d := 77) rfl rfl rfl ?_
              refine TL.pickT rfl rfl rfl rfl ?_
              refine TL.guardYes (d := 77) rfl rfl rfl ?_
              refine TL.move rfl rfl ?_
              refine TL.guardNo (d := 92) rfl rfl rfl rfl rfl ?_
              refine TL.guardNo (d := 92) rfl rfl rfl rfl rfl ?_
              refine TL.guardNo (d := 92) rfl rfl rfl rfl rfl ?_
              refine TL.guardYes (d := 77) rfl rfl rfl ?_
              refine TL.pickT rfl rfl rfl rfl ?_
              refine TL.guardYes (d := 77) rfl rfl rfl ?_
              refine TL.move rfl rfl ?_
              refine TL.guardNo (d := 97) rfl rfl rfl rfl rfl ?_
              refine TL.guardNo (d := 97) rfl rfl rfl rfl rfl ?_
              refine TL.guardNo (d := 97) rfl rfl rfl rfl rfl ?_
              refine TL.guardNo (d := 97) rfl rfl rfl rfl rfl ?_
              refine TL.guardUndef (d := 101) rfl rfl rfl rfl ?_
              refine TL.guardUndef (d := 101) rfl rfl rfl rfl ?_
              refine TL.guardUndef (d := 101) rfl rfl rfl rfl ?_
              refine TL.guardUndef (d := 101) rfl rfl rfl rfl ?_
              refine TL.guardUndef (d := 101) rfl rfl rfl rfl ?_
              refine TL.guardUndef (d := 101) rfl rfl rfl rfl ?_
              refine TL.guardUndef (d := 101) rfl rfl rfl rfl ?_
              refine TL.guardUndef (d := 101) rfl rfl rfl rfl ?_
              refine TL.guardUndef (d := 101) rfl rfl rfl rfl ?_
              refine TL.guardNo (d := 97) rfl rfl rfl rfl rfl ?_
              refine TL.guardYes (d := 77) rfl rfl rfl ?_
              refine TL.pickT rfl rfl rfl rfl ?_
              refine TL.pickT rfl rfl rfl rfl ?_
              refine TL.assign rfl rfl ?_
              refine TL.done ?_
              exact hK11  _ _ (by repeat (first | exact trivial | refine ⟨rfl, ?_⟩ | refine ⟨congrArg (fun b => some (Value.bool b)) (by first | exact (decide_eq_true (by grind)).symm | exact (decide_eq_false (by grind)).symm | exact decide_eq_decide.2 (by grind) | exact decide_eq_true (by grind) | exact decide_eq_false (by grind) | (exfalso; grind)), ?_⟩)) (rfl)
            ·
              refine TL.guardYes (d := 77) rfl rfl rfl ?_
              refine TL.move rfl rfl ?_
              refine TL.guardYes (d := 80) rfl rfl rfl ?_
              refine TL.move rfl rfl ?_
              refine TL.guardYes (d := 80) rfl rfl rfl ?_
              refine TL.gtr rfl rfl rfl ?_
              refine TL.em (fun e82 => ?_) (fun e82 => ?_)
              ·
                refine TL.guardYes (d := 77) rfl rfl rfl ?_
                refine TL.pickF rfl rfl rfl rfl ?_
                refine TL.guardYes (d := 77) rfl rfl rfl ?_
                refine TL.move rfl rfl ?_
                refine TL.guardNo (d := 84) rfl rfl rfl rfl rfl ?_
                refine TL.guardNo (d := 84) rfl rfl rfl rfl rfl ?_
                refine TL.guardYes (d := 77) rfl rfl rfl ?_
                refine TL.pickT rfl rfl rfl rfl ?_
                refine TL.guardYes (d := 77) rfl rfl rfl ?_
                refine TL.move rfl rfl ?_
                refine TL.guardNo (d := 88) rfl rfl rfl rfl rfl ?_
                refine TL.guardNo (d := 88) rfl rfl rfl rfl rfl ?_
                refine TL.guardYes (d := 77) rfl rfl rfl ?_
                refine TL.pickT rfl rfl rfl rfl ?_
                refine TL.guardYes (d := 77) rfl rfl rfl ?_
                refine TL.move rfl rfl ?_
                refine TL.guardNo (d := 92) rfl rfl rfl rfl rfl ?_
                refine TL.guardNo (d := 92) rfl rfl rfl rfl rfl ?_
                refine TL.guardNo (d := 92) rfl rfl rfl rfl rfl ?_
                refine TL.guardYes (d := 77) rfl rfl rfl ?_
                refine TL.pickT rfl rfl rfl rfl ?_
                refine TL.guardYes (d := 77) rfl rfl rfl ?_
                refine TL.move rfl rfl ?_
                refine TL.guardNo (d := 97) rfl rfl rfl rfl rfl ?_
                refine TL.guardNo (d := 97) rfl rfl rfl rfl rfl ?_
                refine TL.guardNo (d := 97) rfl rfl rfl rfl rfl ?_
                refine TL.guardNo (d := 97) rfl rfl rfl rfl rfl ?_
                refine TL.guardUndef (d := 101) rfl rfl rfl rfl ?_
                refine TL.guardUndef (d := 101) rfl rfl rfl rfl ?_
                refine TL.guardUndef (d := 101) rfl rfl rfl rfl ?_
                refine TL.guardUndef (d := 101) rfl rfl rfl rfl ?_
                refine TL.guardUndef (d := 101) rfl rfl rfl rfl ?_
                refine TL.guardUndef (d := 101) rfl rfl rfl rfl ?_
                refine TL.guardUndef (d := 101) rfl rfl rfl rfl ?_
                refine TL.guardUndef (d := 101) rfl rfl rfl rfl ?_
                refine TL.guardUndef (d := 101) rfl rfl rfl rfl ?_
                refine TL.guardNo (d := 97) rfl rfl rfl rfl rfl ?_
                refine TL.guardYes (d := 77) rfl rfl rfl ?_
                refine TL.pickT rfl rfl rfl rfl ?_
                refine TL.pickT rfl rfl rfl rfl ?_
                refine TL.assign rfl rfl ?_
                refine TL.done ?_
                exact hK11  _ _ (by repeat (first | exact trivial | refine ⟨rfl, ?_⟩ | refine ⟨congrArg (fun b => some (Value.bool b)) (by first | exact (decide_eq_true (by grind)).symm | exact (decide_eq_false (by grind)).symm | exact decide_eq_decide.2 (by grind) | exact decide_eq_true (by grind) | exact decide_eq_false (by grind) | (exfalso; grind)), ?_⟩)) (rfl)
              ·
                refine TL.guardYes (d := 77) rfl rfl rfl ?_
                refine TL.pickF rfl rfl rfl rfl ?_
                refine TL.guardYes (d := 77) rfl rfl rfl ?_
                refine TL.move rfl rfl ?_
                refine TL.guardYes (d := 84) rfl rfl rfl ?_
                refine TL.move rfl rfl ?_
                refine TL.guardYes (d := 84) rfl rfl rfl ?_
                refine TL.lss rfl rfl rfl ?_
                refine TL.em (fun e86 => ?_) (fun e86 => ?_)
                ·
                  refine TL.guardYes (d := 77) rfl rfl rfl ?_
                  refine TL.pickF rfl rfl rfl rfl ?_
                  refine TL.guardYes (d := 77) rfl rfl rfl ?_
                  refine TL.move rfl rfl ?_
                  refine TL.guardNo (d := 88) rfl rfl rfl rfl rfl ?_
                  refine TL.guardNo (d := 88) rfl rfl rfl rfl rfl ?_
                  refine TL.guardYes (d := 77) rfl rfl rfl ?_
                  refine TL.pickT rfl rfl rfl rfl ?_
                  refine TL.guardYes (d := 77) rfl rfl rfl ?_
                  refine TL.move rfl rfl ?_
                  refine TL.guardNo (d := 92) rfl rfl rfl rfl rfl ?_
                  refine TL.guardNo (d := 92) rfl rfl rfl rfl rfl ?_
                  refine TL.guardNo (d := 92) rfl rfl rfl rfl rfl ?_
                  refine TL.guardYes (d := 77) rfl rfl rfl ?_
                  refine TL.pickT rfl rfl rfl rfl ?_
                  refine TL.guardYes (d := 77) rfl rfl rfl ?_
                  refine TL.move rfl rfl ?_
                  refine TL.guardNo (d := 97) rfl rfl rfl rfl rfl ?_
                  refine TL.guardNo (d := 97) rfl rfl rfl rfl rfl ?_
                  refine TL.guardNo (d := 97) rfl rfl rfl rfl rfl ?_
                  refine TL.guardNo (d := 97) rfl rfl rfl rfl rfl ?_
                  refine TL.guardUndef (d := 101) rfl rfl rfl rfl ?_
                  refine TL.guardUndef (d := 101) rfl rfl rfl rfl ?_
                  refine TL.guardUndef (d := 101) rfl rfl rfl rfl ?_
                  refine TL.guardUndef (d := 101) rfl rfl rfl rfl ?_
                  refine TL.guardUndef (d := 101) rfl rfl rfl rfl ?_
                  refine TL.guardUndef (d := 101) rfl rfl rfl rfl ?_
                  refine TL.guardUndef (d := 101) rfl rfl rfl rfl ?_
                  refine TL.guardUndef (d := 101) rfl rfl rfl rfl ?_
                  refine TL.guardUndef (d := 101) rfl rfl rfl rfl ?_
                  refine TL.guardNo (d := 97) rfl rfl rfl rfl rfl ?_
                  refine TL.guardYes (d := 77) rfl rfl rfl ?_
                  refine TL.pickT rfl rfl rfl rfl ?_
                  refine TL.pickT rfl rfl rfl rfl ?_
                  refine TL.assign rfl rfl ?_
                  refine TL.done ?_
                  exact hK11  _ _ (by repeat (first | exact trivial | refine ⟨rfl, ?_⟩ | refine ⟨congrArg (fun b => some (Value.bool b)) (by first | exact (decide_eq_true (by grind)).symm | exact (decide_eq_false (by grind)).symm | exact decide_eq_decide.2 (by grind) | exact decide_eq_true (by grind) | exact decide_eq_false (by grind) | (exfalso; grind)), ?_⟩)) (rfl)
                ·
                  refine TL.guardYes (d := 77) rfl rfl rfl ?_
                  refine TL.pickF rfl rfl rfl rfl ?_
                  refine TL.guardYes (d := 77) rfl rfl rfl ?_
                  refine TL.move rfl rfl ?_
                  refine TL.guardYes (d := 88) rfl rfl rfl ?_
                  refine TL.move rfl rfl ?_
                  refine TL.guardYes (d := 88) rfl rfl rfl ?_
                  refine TL.gtr rfl rfl rfl ?_
                  refine TL.em (fun e90 => ?_) (fun e90 => ?_)
                  ·
                    refine TL.guardYes (d := 77) rfl rfl rfl ?_
                    refine TL.pickF rfl rfl rfl rfl ?_
                    refine TL.guardYes (d := 77) rfl rfl rfl ?_
                    refine TL.move rfl rfl ?_
                    refine TL.guardNo (d := 92) rfl rfl rfl rfl rfl ?_
                    refine TL.guardNo (d := 92) rfl rfl rfl rfl rfl ?_
                    refine TL.guardNo (d := 92) rfl rfl rfl rfl rfl ?_
                    refine TL.guardYes (d := 77) rfl rfl rfl ?_
                    refine TL.pickT rfl rfl rfl rfl ?_
                    refine TL.guardYes (d := 77) rfl rfl rfl ?_
                    refine TL.move rfl rfl ?_
                    refine TL.guardNo (d := 97) rfl rfl rfl rfl rfl ?_
                    refine TL.guardNo (d := 97) rfl rfl rfl rfl rfl ?_
                    refine TL.guardNo (d := 97) rfl rfl rfl rfl rfl ?_
                    refine TL.guardNo (d := 97) rfl rfl rfl rfl rfl ?_
                    refine TL.guardUndef (d := 101) rfl rfl rfl rfl ?_
                    refine TL.guardUndef (d := 101) rfl rfl rfl rfl ?_
                    refine TL.guardUndef (d := 101) rfl rfl rfl rfl ?_
                    refine TL.guardUndef (d := 101) rfl rfl rfl rfl ?_
                    refine TL.guardUndef (d := 101) rfl rfl rfl rfl ?_
                    refine TL.guardUndef (d := 101) rfl rfl rfl rfl ?_
                    refine TL.guardUndef (d := 101) rfl rfl rfl rfl ?_
                    refine TL.guardUndef (d := 101) rfl rfl rfl rfl ?_
                    refine TL.guardUndef (d := 101) rfl rfl rfl rfl ?_
                    refine TL.guardNo (d := 97) rfl rfl rfl rfl rfl ?_
                    refine TL.guardYes (d := 77) rfl rfl rfl ?_
                    refine TL.pickT rfl rfl rfl rfl ?_
                    refine TL.pickT rfl rfl rfl rfl ?_
                    refine TL.assign rfl rfl ?_
                    refine TL.done ?_
                    exact hK11  _ _ (by repeat (first | exact trivial | refine ⟨rfl, ?_⟩ | refine ⟨congrArg (fun b => some (Value.bool b)) (by first | exact (decide_eq_true (by grind)).symm | exact (decide_eq_false (by grind)).symm | exact decide_eq_decide.2 (by grind) | exact decide_eq_true (by grind) | exact decide_eq_false (by grind) | (exfalso; grind)), ?_⟩)) (rfl)
                  ·
                    refine TL.guardYes (d := 77) rfl rfl rfl ?_
                    refine TL.pickF rfl rfl rfl rfl ?_
                    refine TL.guardYes (d := 77) rfl rfl rfl ?_
                    refine TL.move rfl rfl ?_
                    refine TL.guardYes (d := 92) rfl rfl rfl ?_
                    refine TL.move rfl rfl ?_
                    refine TL.guardYes (d := 92) rfl rfl rfl ?_
                    refine TL.lenStr Try.underlying9 rfl rfl ?_
                    refine TL.guardYes (d := 92) rfl rfl rfl ?_
                    refine TL.gtr rfl rfl rfl ?_
                    refine TL.em (fun e95 => ?_) (fun e95 => ?_)
                    ·
                      refine TL.guardYes (d := 77) rfl rfl rfl ?_
                      refine TL.pickF rfl rfl rfl rfl ?_
                      refine TL.guardYes (d := 77) rfl rfl rfl ?_
                      refine TL.move rfl rfl ?_
                      refine TL.guardNo (d := 97) rfl rfl rfl rfl rfl ?_
                      refine TL.guardNo (d := 97) rfl rfl rfl rfl rfl ?_
                      refine TL.guardNo (d := 97) rfl rfl rfl rfl rfl ?_
                      refine TL.guardNo (d := 97) rfl rfl rfl rfl rfl ?_
                      refine TL.guardUndef (d := 101) rfl rfl rfl rfl ?_
                      refine TL.guardUndef (d := 101) rfl rfl rfl rfl ?_
                      refine TL.guardUndef (d := 101) rfl rfl rfl rfl ?_
                      refine TL.guardUndef (d := 101) rfl rfl rfl rfl ?_
                      refine TL.guardUndef (d := 101) rfl rfl rfl rfl ?_
                      refine TL.guardUndef (d := 101) rfl rfl rfl rfl ?_
                      refine TL.guardUndef (d := 101) rfl rfl rfl rfl ?_
                      refine TL.guardUndef (d := 101) rfl rfl rfl rfl ?_
                      refine TL.guardUndef (d := 101) rfl rfl rfl rfl ?_
                      refine TL.guardNo (d := 97) rfl rfl rfl rfl rfl ?_
                      refine TL.guardYes (d := 77) rfl rfl rfl ?_
                      refine TL.pickT rfl rfl rfl rfl ?_
                      refine TL.pickT rfl rfl rfl rfl ?_
                      refine TL.assign rfl rfl ?_
                      refine TL.done ?_
                      exact hK11  _ _ (by repeat (first | exact trivial | refine ⟨rfl, ?_⟩ | refine ⟨congrArg (fun b => some (Value.bool b)) (by first | exact (decide_eq_true (by grind)).symm | exact (decide_eq_false (by grind)).symm | exact decide_eq_decide.2 (by grind) | exact decide_eq_true (by grind) | exact decide_eq_false (by grind) | (exfalso; grind)), ?_⟩)) (rfl)
                    ·
                      refine TL.guardYes (d := 77) rfl rfl rfl ?_
                      refine TL.pickF rfl rfl rfl rfl ?_
                      refine TL.guardYes (d := 77) rfl rfl rfl ?_
                      refine TL.move rfl rfl ?_
                      refine TL.guardYes (d := 97) rfl rfl rfl ?_
                      refine TL.move rfl rfl ?_
                      refine TL.guardYes (d := 97) rfl rfl rfl ?_
                      refine TL.lenSlice Try.underlying22 rfl rfl ?_
                      refine TL.guardYes (d := 97) rfl rfl rfl ?_
                      refine TL.gtr rfl rfl rfl ?_
                      refine TL.em (fun e100 => ?_) (fun e100 => ?_)
                      ·
                        obtain ⟨b2, o2, e9, hce9⟩ := hlast (by omega) 1 (by decide)
                        cases e9
                        refine TL.guardYes (d := 97) rfl rfl rfl ?_
                        refine TL.move rfl rfl ?_
                        refine TL.guardYes (d := 101) rfl rfl rfl ?_
                        refine TL.move rfl rfl ?_
                        refine TL.guardYes (d := 101) rfl rfl rfl ?_
                        refine TL.move rfl rfl ?_
                        refine TL.guardYes (d := 101) rfl rfl rfl ?_
                        refine TL.move rfl rfl ?_
                        refine TL.guardYes (d := 101) rfl rfl rfl ?_
                        refine TL.lenSlice Try.underlying22 rfl rfl ?_
                        refine TL.guardYes (d := 101) rfl rfl rfl ?_
                        refine TL.sub_i64 rfl rfl (by omega) (by omega) rfl ?_
                        refine TL.guardYes (d := 101) rfl rfl rfl ?_
                        refine TL.indexAddr (l.length - 1) sl22 rfl rfl (by first | rfl | omega) (by omega) rfl ?_
                        refine TL.guardYes (d := 101) rfl rfl rfl ?_
                        refine TL.fieldAddr fd32k1 rfl rfl ?_
                        refine TL.guardYes (d := 101) rfl rfl rfl ?_
                        refine TL.load pl3 rfl ((show _ = some (Value.int .i64 (Audit.rec l (l.length - 1)).at_) from hce9)) rfl ?_
                        refine TL.guardYes (d := 101) rfl rfl rfl ?_
                        refine TL.lss rfl rfl rfl ?_
                        refine TL.guardYes (d := 97) rfl rfl rfl ?_
                        refine TL.pickT rfl rfl rfl rfl ?_
                        refine TL.guardYes (d := 77) rfl rfl rfl ?_
                        refine TL.pickF rfl rfl rfl rfl ?_
                        refine TL.pickT rfl rfl rfl rfl ?_
                        refine TL.assign rfl rfl ?_
                        refine TL.done ?_
                        exact hK11  _ _ (by repeat (first | exact trivial | refine ⟨rfl, ?_⟩ | refine ⟨congrArg (fun b => some (Value.bool b)) (by first | exact (decide_eq_true (by grind)).symm | exact (decide_eq_false (by grind)).symm | exact decide_eq_decide.2 (by grind) | exact decide_eq_true (by grind) | exact decide_eq_false (by grind) | (exfalso; grind)), ?_⟩)) (rfl)
                      ·
                        refine TL.guardYes (d := 97) rfl rfl rfl ?_
                        refine TL.move rfl rfl ?_
                        refine TL.guardNo (d := 101) rfl rfl rfl rfl rfl ?_
                        refine TL.guardNo (d := 101) rfl rfl rfl rfl rfl ?_
                        refine TL.guardNo (d := 101) rfl rfl rfl rfl rfl ?_
                        refine TL.guardNo (d := 101) rfl rfl rfl rfl rfl ?_
                        refine TL.guardNo (d := 101) rfl rfl rfl rfl rfl ?_
                        refine TL.guardNo (d := 101) rfl rfl rfl rfl rfl ?_
                        refine TL.guardNo (d := 101) rfl rfl rfl rfl rfl ?_
                        refine TL.guardNo (d := 101) rfl rfl rfl rfl rfl ?_
                        refine TL.guardNo (d := 101) rfl rfl rfl rfl rfl ?_
                        refine TL.guardYes (d := 97) rfl rfl rfl ?_
                        refine TL.pickF rfl rfl rfl rfl ?_
                        refine TL.guardYes (d := 77) rfl rfl rfl ?_
                        refine TL.pickF rfl rfl rfl rfl ?_
                        refine TL.pickT rfl rfl rfl rfl ?_
                        refine TL.assign rfl rfl ?_
                        refine TL.done ?_
                        exact hK11  _ _ (by repeat (first | exact trivial | refine ⟨rfl, ?_⟩ | refine ⟨congrArg (fun b => some (Value.bool b)) (by first | exact (decide_eq_true (by grind)).symm | exact (decide_eq_false (by grind)).symm | exact decide_eq_decide.2 (by grind) | exact decide_eq_true (by grind) | exact decide_eq_false (by grind) | (exfalso; grind)), ?_⟩)) (rfl)
          ·
            refine TC.ret ?_
            refine Thn.ret ?_
            refine Ends.ret [10] rfl rfl ?_
            exact ⟨rfl, by subst hH; exact hc22.trans0 q56⟩
        ·
          have hE0 : E = 0 := by omega
          have hnx : Audit.nextE l t u d o = 0 := by rw [hE, hE0]
          have k1 : ¬ (t < 0 ∨ 1099511627776 < t) := fun h => by rw [next_time hk h] at hnx; omega
          have k2 : ¬ (32 < u.length ∨ 16384 < d.length) := fun h => by rw [next_text hk k1 h] at hnx; omega
          have k3 : ¬ (o < 100 ∨ 599 < o) := fun h => by rw [next_out hk k1 k2 h] at hnx; omega
          have k4 : ¬ l.length = 4096 := by omega
          have k5 : ¬ (0 ≤ Audit.firstI l ∨ (0 < l.length ∧ t < (Audit.rec l (l.length - 1)).at_)) := fun h => by rw [next_chain hk k1 k2 k3 k4 h] at hnx; omega
          obtain ⟨_, e2⟩ := next_ok hk k1 k2 k3 k4 k5
          obtain ⟨g1, g2⟩ := Audit.grows hk hlen k1 k2 k3 k5
          obtain ⟨X, hX⟩ : ∃ X, Audit.newR l t u d o = X := ⟨_, rfl⟩
          rw [hX] at e2 g1 g2
          have hX5 : X.seq = (l.length : Int) ∧ X.at_ = t ∧ X.user = u ∧ X.deed = d ∧ X.outcome = o := by rw [← hX]; exact ⟨rfl, rfl, rfl, rfl, rfl⟩
          have hNl : N = l ++ [X] := by rw [← hN, e2]
          subst hNl
          have hXh : ∀ r ∈ l ++ [X], r.hash.length ≤ 100000 := fun r hr => by have := (Audit.asked_zero g1).2 r hr; have := this.2.2.2.2.2.2.2.2; omega
          have hnl : (l ++ [X]).length = l.length + 1 := by simp
          obtain ⟨gn, cn, e7⟩ := hv56.form (by omega)
          cases e7
          refine TC.skip ?_
          refine Thn.go ?_
          refine TC.seq ?_
          refine TC.region ?_
          refine TL.move rfl rfl ?_
          refine TL.call can15 rfl rfl (fn15 _ (l ++ [X]) w56 (Rd.ofOwn hv56) (fun _ => hXh)) (fun v116 w116 hr116 => ?_)
          obtain ⟨rfl, hc116⟩ := hr116
          have hcN : Audit.checkN (l ++ [X]) = -1 := by rw [Audit.checkN, if_pos g1, g2]
          rw [hcN, g1]
          refine TL.move rfl rfl ?_
          refine TL.extract rfl rfl rfl ?_
          refine TL.extract rfl rfl rfl ?_
          refine TL.assign rfl rfl ?_
          refine TL.assign rfl rfl ?_
          refine TL.done ?_
          refine Thn.go ?_
          refine TC.seq ?_
          refine TC.seq ?_
          refine TC.region ?_
          refine TL.move rfl rfl ?_
          refine TL.neq rfl rfl rfl ?_
          refine TL.no (by simp) ?_
          refine TL.move rfl rfl ?_
          refine TL.guardYes (d := 121) rfl rfl rfl ?_
          refine TL.move rfl rfl ?_
          refine TL.guardYes (d := 121) rfl rfl rfl ?_
          refine TL.neq rfl rfl rfl ?_
          refine TL.no (by simp) ?_
          refine TL.pickF rfl rfl rfl rfl ?_
          refine TL.move rfl rfl ?_
          refine TL.guardYes (d := 125) rfl rfl rfl ?_
          refine TL.move rfl rfl ?_
          refine TL.guardYes (d := 125) rfl rfl rfl ?_
          refine TL.lenSlice Try.underlying22 rfl rfl ?_
          refine TL.guardYes (d := 125) rfl rfl rfl ?_
          refine TL.move rfl rfl ?_
          refine TL.guardYes (d := 125) rfl rfl rfl ?_
          refine TL.lenSlice Try.underlying22 rfl rfl ?_
          refine TL.guardYes (d := 125) rfl rfl rfl ?_
          refine TL.add_i64 rfl rfl (by omega) (by omega) rfl ?_
          refine TL.guardYes (d := 125) rfl rfl rfl ?_
          refine TL.neq rfl rfl rfl ?_
          refine TL.no (by rw [hnl]; simp) ?_
          refine TL.pickF rfl rfl rfl rfl ?_
          refine TL.done ?_
          refine Thn.go ?_
          refine TC.condF rfl rfl ?_
          refine TC.skip ?_
          refine Thn.go ?_
          refine TC.seq ?_
          refine TC.seq ?_
          refine TC.region ?_
          refine TL.assign rfl rfl ?_
          refine TL.done ?_
          refine Thn.go ?_
          refine TC.block ?_
          refine TC.loop1 (fun (i : Nat) => [(0, .slice ad l.length c), (1, .int .i64 t), (2, str u), (3, str d), (4, .int .i64 o), (14, .slice (some ⟨gn, 0, none⟩) (l ++ [X]).length c52), (18, .int .i64 (i : Int))]) (fun i w' => i ≤ l.length ∧ Ch [] w56 w') (fun i => l.length - i) 0 (by repeat (first | exact trivial | refine ⟨rfl, ?_⟩)) (⟨by omega, hc116⟩) (fun i w' hH => ?_)
          obtain ⟨hi, hch⟩ := hH
          have hrN := (Rd.ofOwn hv56).ch0 hch
          have hrl := (haa.ch0 q56).ch0 hch
          refine TC.seq ?_
          refine TC.seq ?_
          refine TC.region ?_
          refine TL.move rfl rfl ?_
          refine TL.move rfl rfl ?_
          refine TL.lenSlice Try.underlying22 rfl rfl ?_
          refine TL.lss rfl rfl rfl ?_
          refine TL.done ?_
          refine Thn.go ?_
          refine TC.condP rfl (fun h19 => ?_) (fun h19 => ?_)
          ·
            have hil : i < l.length := by omega
            obtain ⟨b1, o1, rfl, _⟩ := recAt hrl hil
            have hce : ∀ w2, Ch [] w' w2 → ∀ j, j < 6 → w2.cell? ⟨b1, o1 + i * 6 + j, none⟩ = (cl (Audit.rec l i))[j]? := fun w2 h2 => by obtain ⟨b', o', e, hh⟩ := recAt (hrl.ch0 h2) hil; cases e; exact hh
            have hce2 : ∀ w2, Ch [] w' w2 → ∀ j, j < 6 → w2.cell? ⟨gn, 0 + i * 6 + j, none⟩ = (cl (Audit.rec l i))[j]? := fun w2 h2 => by obtain ⟨b', o', e, hh⟩ := recAt (i := i) (hrN.ch0 h2) (by omega); cases e; rw [Audit.rec_left hil] at hh; exact hh
            refine TC.skip ?_
            refine Thn.go ?_
            refine TC.seq ?_
            refine TC.block ?_
            refine TC.seq ?_
            refine TC.regionQ (fun w4 => Ch [] w' w4) mixed0 (by kernel_rfl) (Ch.drew [] _) ?_
            refine TQ.via rfl rfl rfl rfl (fun w2 hw2 => TL.move rfl rfl (TL.done ⟨rfl, rfl⟩)) ?_
            refine TQ.via rfl rfl rfl rfl (fun w2 hw2 => TL.move rfl rfl (TL.done ⟨rfl, rfl⟩)) ?_
            refine TQ.via rfl rfl rfl rfl (fun w2 hw2 => TL.indexAddr (i) sl22 rfl rfl (by first | rfl | omega) (by omega) rfl (TL.done ⟨rfl, rfl⟩)) ?_
            refine TQ.via rfl rfl rfl rfl (fun w2 hw2 => TL.loadAgg (cl (Audit.rec l i)) ag32 rfl rfl (fun j hj => hce2 _ hw2 j hj) rfl (TL.done ⟨rfl, rfl⟩)) ?_
            refine TQ.via rfl rfl rfl rfl (fun w2 hw2 => TL.move rfl rfl (TL.done ⟨rfl, rfl⟩)) ?_
            refine TQ.via rfl rfl rfl rfl (fun w2 hw2 => TL.move rfl rfl (TL.done ⟨rfl, rfl⟩)) ?_
            refine TQ.via rfl rfl rfl rfl (fun w2 hw2 => TL.indexAddr (i) sl22 rfl rfl (by first | rfl | omega) (by omega) rfl (TL.done ⟨rfl, rfl⟩)) ?_
            refine TQ.via rfl rfl rfl rfl (fun w2 hw2 => TL.loadAgg (cl (Audit.rec l i)) ag32 rfl rfl (fun j hj => hce _ hw2 j hj) rfl (TL.done ⟨rfl, rfl⟩)) ?_
            refine TQ.via rfl rfl rfl rfl (fun w2 hw2 => TL.neqAgg gd32 (eqRecord _ _ _) rfl rfl rfl (TL.done ⟨rfl, rfl⟩)) ?_
            refine TQ.no (by simp) ?_
            refine TQ.done (fun w2 hw2 => ?_)
            refine Thn.go ?_
            refine TC.condF rfl rfl ?_
            refine TC.skip ?_
            refine Blk.go ?_
            refine Thn.go ?_
            refine TC.region ?_
            refine TL.move rfl rfl ?_
            refine TL.add_i64 rfl rfl (by omega) (by omega) rfl ?_
            refine TL.assign rfl rfl ?_
            refine TL.done ?_
            refine Lp.go (i + 1) (by repeat (first | exact trivial | refine ⟨rfl, ?_⟩)) ?_ (by first | omega | (dsimp only; omega))
            exact ⟨by omega, hch.trans0 hw2⟩
          ·
            refine TC.exit ?_
            refine Thn.exit ?_
            refine Lp.exit ?_
            refine Blk.hit ?_
            refine Thn.go ?_
            refine TC.seq ?_
            refine TC.region ?_
            refine TL.move rfl rfl ?_
            refine TL.move rfl rfl ?_
            refine TL.lenSlice Try.underlying22 rfl rfl ?_
            refine TL.indexAddr (l.length) sl22 rfl rfl (by first | rfl | omega) (by omega) rfl ?_
            refine TL.loadAgg (cl X) ag32 rfl rfl (fun j hj => by obtain ⟨b', o', e, hh⟩ := recAt (i := l.length) hrN (by omega); cases e; rw [Audit.rec_last] at hh; exact hh j hj) rfl ?_
            refine TL.alloc ze32 rfl (fun w19 hb19 hc19 hz19 => ?_)
            refine TL.store sz32 rfl rfl rfl hb19 (by simp [Value.cells]) (by simpa [Value.cells] using cl_one X) (.inl rfl) (fun ws1 hbs1 hcs1 hzs1 => ?_)
            replace hbs1 : Has ws1 w'.heap.size (cl X).toArray 32 (0, 0) := hbs1.setAll rfl
            have q1 : Ch [] w' ws1 := hc19.then1 hcs1 (Nat.le_refl _)
            refine TL.done ?_
            refine Thn.go ?_
            refine TC.seq ?_
            refine TC.region ?_
            refine TL.move rfl rfl ?_
            refine TL.call can19 rfl rfl (fn19 _ (l ++ [X]) ws1 (hrN.ch0 q1) (fun _ => hXh)) (fun v155 w155 hr155 => ?_)
            obtain ⟨rfl, hc155⟩ := hr155
            rw [Audit.head_last _ _ g1, g1]
            have hbx := hbs1.ch0 hc155
            refine TL.move rfl rfl ?_
            refine TL.extract rfl rfl rfl ?_
            refine TL.extract rfl rfl rfl ?_
            refine TL.assign rfl rfl ?_
            refine TL.assign rfl rfl ?_
            refine TL.done ?_
            refine Thn.go ?_
            refine TC.seq ?_
            refine TC.region ?_
            refine TL.move rfl rfl ?_
            refine TL.eql rfl rfl rfl ?_
            refine TL.yes (rfl) ?_
            refine TL.move rfl rfl ?_
            refine TL.guardYes (d := 160) rfl rfl rfl ?_
            refine TL.move rfl rfl ?_
            refine TL.guardYes (d := 160) rfl rfl rfl ?_
            refine TL.fieldAddr fd32k5 rfl rfl ?_
            refine TL.guardYes (d := 160) rfl rfl rfl ?_
            refine TL.load pl9 rfl ((show _ = some (str X.hash) from hbx.cell _)) rfl ?_
            refine TL.guardYes (d := 160) rfl rfl rfl ?_
            refine TL.eqlStr rfl rfl rfl ?_
            refine TL.yes (rfl) ?_
            refine TL.pickT rfl rfl rfl rfl ?_
            refine TL.move rfl rfl ?_
            refine TL.guardYes (d := 166) rfl rfl rfl ?_
            refine TL.fieldAddr fd32k0 rfl rfl ?_
            refine TL.guardYes (d := 166) rfl rfl rfl ?_
            refine TL.load pl3 rfl ((show _ = some (Value.int .i64 X.seq) from hbx.cell _)) rfl ?_
            refine TL.guardYes (d := 166) rfl rfl rfl ?_
            refine TL.move rfl rfl ?_
            refine TL.guardYes (d := 166) rfl rfl rfl ?_
            refine TL.lenSlice Try.underlying22 rfl rfl ?_
            refine TL.guardYes (d := 166) rfl rfl rfl ?_
            refine TL.eql rfl rfl rfl ?_
            refine TL.yes (hX5.1) ?_
            refine TL.pickT rfl rfl rfl rfl ?_
            refine TL.move rfl rfl ?_
            refine TL.guardYes (d := 173) rfl rfl rfl ?_
            refine TL.fieldAddr fd32k1 rfl rfl ?_
            refine TL.guardYes (d := 173) rfl rfl rfl ?_
            refine TL.load pl3 rfl ((show _ = some (Value.int .i64 X.at_) from hbx.cell _)) rfl ?_
            refine TL.guardYes (d := 173) rfl rfl rfl ?_
            refine TL.move rfl rfl ?_
            refine TL.guardYes (d := 173) rfl rfl rfl ?_
            refine TL.eql rfl rfl rfl ?_
            refine TL.yes (hX5.2.1) ?_
            refine TL.pickT rfl rfl rfl rfl ?_
            refine TL.move rfl rfl ?_
            refine TL.guardYes (d := 179) rfl rfl rfl ?_
            refine TL.fieldAddr fd32k2 rfl rfl ?_
            refine TL.guardYes (d := 179) rfl rfl rfl ?_
            refine TL.load pl9 rfl ((show _ = some (str X.user) from hbx.cell _)) rfl ?_
            refine TL.guardYes (d := 179) rfl rfl rfl ?_
            refine TL.move rfl rfl ?_
            refine TL.guardYes (d := 179) rfl rfl rfl ?_
            refine TL.eqlStr rfl rfl rfl ?_
            refine TL.yes (hX5.2.2.1) ?_
            refine TL.pickT rfl rfl rfl rfl ?_
            refine TL.move rfl rfl ?_
            refine TL.guardYes (d := 185) rfl rfl rfl ?_
            refine TL.fieldAddr fd32k3 rfl rfl ?_
            refine TL.guardYes (d := 185) rfl rfl rfl ?_
            refine TL.load pl9 rfl ((show _ = some (str X.deed) from hbx.cell _)) rfl ?_
            refine TL.guardYes (d := 185) rfl rfl rfl ?_
            refine TL.move rfl rfl ?_
            refine TL.guardYes (d := 185) rfl rfl rfl ?_
            refine TL.eqlStr rfl rfl rfl ?_
            refine TL.yes (hX5.2.2.2.1) ?_
            refine TL.pickT rfl rfl rfl rfl ?_
            refine TL.move rfl rfl ?_
            refine TL.guardYes (d := 191) rfl rfl rfl ?_
            refine TL.fieldAddr fd32k4 rfl rfl ?_
            refine TL.guardYes (d := 191) rfl rfl rfl ?_
            refine TL.load pl3 rfl ((show _ = some (Value.int .i64 X.outcome) from hbx.cell _)) rfl ?_
            refine TL.guardYes (d := 191) rfl rfl rfl ?_
            refine TL.move rfl rfl ?_
            refine TL.guardYes (d := 191) rfl rfl rfl ?_
            refine TL.eql rfl rfl rfl ?_
            refine TL.yes (hX5.2.2.2.2) ?_
            refine TL.pickT rfl rfl rfl rfl ?_
            refine TL.assign rfl rfl ?_
            refine TL.done ?_
            refine Thn.go ?_
            refine TC.ret ?_
            refine Ends.ret [10] rfl rfl ?_
            exact ⟨rfl, (((hc22.trans0 q56).trans0 hch).trans0 q1).trans0 hc155⟩

