/-
  Walks through the given program: each theorem fnN says what the call of function N of the translation hands back, for all arguments that its premises describe, and that nothing that was there has turned.
-/
import Derived.Test.YtemfaondlhglbaaT9
import Derived.Test.YtemfaondlhglbaaLaneN
namespace Go.Proofs.Ytemfaondlhglbaa
open Go.Lane
theorem can35 : Callable Try.prog 35 := ⟨Try.f35, Try.func35, by kernel_rfl, rfl⟩
theorem can36 : Callable Try.prog 36 := ⟨Try.f36, Try.func36, by kernel_rfl, rfl⟩
theorem ins_cells (l : List Tm.Timer) (t : Tm.Timer) (i : Nat) : (l.take i ++ t :: l.drop i).flatMap cl = (l.take i).flatMap cl ++ cl t ++ (l.drop i).flatMap cl := by
  simp [List.flatMap_append, List.flatMap_cons]
theorem len_take (l : List Tm.Timer) {i : Nat} (h : i ≤ l.length) : ((l.take i).flatMap cl).length = i * 5 := by rw [rows_len cl_len, List.length_take, Nat.min_eq_left h]
theorem len_drop (l : List Tm.Timer) {i : Nat} (h : i ≤ l.length) : ((l.drop i).flatMap cl).length = (l.length - i) * 5 := by rw [rows_len cl_len, List.length_drop]

theorem fn36 (base : Nat) (a : Value) (l : List Tm.Timer) (i : Nat) (t : Tm.Timer) (gb : Nat) (hl : l.length ≤ 100000) (hi : i ≤ l.length) (w : World) (hbs : base ≤ w.heap.size) (ha : Own w base 27 5 a l.length (l.flatMap cl)) (hbh : Has w gb (flat [.agg (cl t).toArray]).toArray 27 (0, 0)) (hap : gb ∉ blk a) : Rets Try.prog 36 #[a, .int .i64 (i : Int), .slice (some ⟨gb, 0, none⟩) 1 1] w (fun v w' => Own w' base 27 5 v (l.length + 1) ((l.take i ++ t :: l.drop i).flatMap cl) ∧ Ch (blk a) w w') := by
  obtain ⟨ad, c, rfl⟩ := ha.shape
  have hmm : maxLen = 9223372036854775807 := rfl
  have hrd := Rd.ofOwn ha
  have hcap := hrd.cap
  have hbr := recOne hbh
  refine Rets.of (n := 95) (vs := [_, _, _]) Try.func36 rfl rfl rfl ?_
  refine TC.seq ?_
  refine TC.region ?_
  refine TL.assign rfl rfl ?_
  refine TL.done ?_
  refine Thn.go ?_
  refine TC.seq ?_
  refine TC.region ?_
  refine TL.move rfl rfl ?_
  refine TL.move rfl rfl ?_
  refine TL.sliceFrom (i) sl25 rfl rfl (by first | rfl | omega) (by omega) rfl ?_
  refine TL.done ?_
  refine Thn.go ?_
  refine TC.seq ?_
  refine TC.region ?_
  refine TL.move rfl rfl ?_
  refine TL.lenSlice Try.underlying25 rfl rfl ?_
  refine TL.assign rfl rfl ?_
  refine TL.done ?_
  refine Thn.go ?_
  refine TC.seq ?_
  refine TC.seq ?_
  refine TC.region ?_
  refine TL.move rfl rfl ?_
  refine TL.eql rfl rfl rfl ?_
  refine TL.no (by decide) ?_
  refine TL.done ?_
  refine Thn.go ?_
  refine TC.condF rfl rfl ?_
  refine TC.skip ?_
  refine Thn.go ?_
  refine TC.seq ?_
  refine TC.region ?_
  refine TL.move rfl rfl ?_
  refine TL.lenSlice Try.underlying25 rfl rfl ?_
  refine TL.assign rfl rfl ?_
  refine TL.done ?_
  refine Thn.go ?_
  refine TC.seq ?_
  refine TC.seq ?_
  refine TC.region ?_
  refine TL.move rfl rfl ?_
  refine TL.move rfl rfl ?_
  refine TL.eql rfl rfl rfl ?_
  refine TL.done ?_
  refine Thn.go ?_
  refine TC.condP rfl (fun h2 => ?_) (fun h2 => ?_)
  ·
    have hil : i = l.length := by omega
    subst hil
    refine TC.seq ?_
    refine TC.region ?_
    refine TL.move rfl rfl ?_
    refine TL.move rfl rfl ?_
    refine TL.append sl25 rfl rfl rfl (ha) (News.ofRd Try.underlying25 (hbr) (rows_one _)) (by omega) (by omega) (by omega) (fun v25 w25 hv25 hc25 _ => ?_)
    refine TL.assign rfl rfl ?_
    refine TL.done ?_
    refine Thn.go ?_
    refine TC.ret ?_
    refine Thn.ret ?_
    refine Ends.ret [6] rfl rfl ?_
    exact ⟨by rw [List.take_length, List.drop_length, List.flatMap_append]; exact hv25, hc25⟩
  ·
    have hil : i < l.length := by omega
    obtain ⟨g, c', eg⟩ := ha.form (by omega)
    cases eg
    obtain ⟨cur, hcur, hcsz, hcn, hcm, hgb, htk⟩ := ha.has
    have hA := len_take l hi
    have hB := len_drop l hi
    have hC : (cl t).length = 5 := rfl
    have hgl := hcur.lt
    refine TC.skip ?_
    refine Thn.go ?_
    refine TC.seq ?_
    refine TC.seq ?_
    refine TC.region ?_
    refine TL.move rfl rfl ?_
    refine TL.move rfl rfl ?_
    refine TL.add_i64 rfl rfl (by omega) (by omega) rfl ?_
    refine TL.move rfl rfl ?_
    refine TL.capSlice Try.underlying25 rfl rfl ?_
    refine TL.gtr rfl rfl rfl ?_
    refine TL.done ?_
    refine Thn.go ?_
    refine TC.condP rfl (fun h3 => ?_) (fun h3 => ?_)
    ·
      refine TC.seq ?_
      refine TC.region ?_
      refine TL.move rfl rfl ?_
      refine TL.move rfl rfl ?_
      refine TL.sliceTo (i) sl25 rfl rfl (by first | rfl | omega) (by omega) rfl ?_
      refine TL.move rfl rfl ?_
      refine TL.move rfl rfl ?_
      refine TL.add_i64 rfl rfl (by omega) (by omega) rfl ?_
      refine TL.move rfl rfl ?_
      refine TL.sub_i64 rfl rfl (by omega) (by omega) rfl ?_
      refine TL.appendZeros (k := l.length + 1 - i) (m := i) (c := c) sl25 Try.underlying3 rfl rfl (by omega) rfl (hrd.to (by omega)) (by omega) (by omega) (by omega) (by omega) (fun c40 cur40 w40 hb40 hs40 hn40 hm40 ht40 hc40 hz40 => ?_)
      refine TL.assign rfl rfl ?_
      refine TL.done ?_
      refine Thn.go ?_
      refine TC.seq ?_
      refine TC.region ?_
      refine TL.move rfl rfl ?_
      refine TL.move rfl rfl ?_
      refine TL.sliceFrom (i) sl25 rfl rfl (by first | rfl | omega) (by omega) rfl ?_
      rw [adv_some (by omega)]
      refine TL.move rfl rfl ?_
      refine TL.copyMin (k := 1) Try.underlying25 sz27 rfl rfl rfl (hbr.ch0 hc40) (by omega) (by omega) (by omega) (by omega) hb40 (by omega) (fun u hu => rows_one _ u (List.mem_of_mem_take hu)) (fun w45 hb45 hc45 hz45 => ?_)
      refine TL.done ?_
      refine Thn.go ?_
      refine TC.seq ?_
      refine TC.regionTail 8 mixed0 (by kernel_rfl) ?_
      refine TS.via rfl rfl rfl rfl (TL.move rfl rfl (TL.done ⟨rfl, rfl⟩)) ?_
      refine TS.via rfl rfl rfl rfl (TL.move rfl rfl (TL.done ⟨rfl, rfl⟩)) ?_
      refine TS.via rfl rfl rfl rfl (TL.move rfl rfl (TL.done ⟨rfl, rfl⟩)) ?_
      refine TS.via rfl rfl rfl rfl (TL.add_i64 rfl rfl (by omega) (by omega) rfl (TL.done ⟨rfl, rfl⟩)) ?_
      refine TS.via rfl rfl rfl rfl (TL.sliceFrom (i + 1) sl25 rfl rfl (by first | rfl | omega) (by omega) rfl (TL.done ⟨rfl, rfl⟩)) ?_
      rw [adv_some (by omega)]
      refine TS.via rfl rfl rfl rfl (TL.move rfl rfl (TL.done ⟨rfl, rfl⟩)) ?_
      refine TS.via rfl rfl rfl rfl (TL.move rfl rfl (TL.done ⟨rfl, rfl⟩)) ?_
      refine TS.via rfl rfl rfl rfl (TL.sliceFrom (i) sl25 rfl rfl (by first | rfl | omega) (by omega) rfl (TL.done ⟨rfl, rfl⟩)) ?_
      refine TS.done ?_
      refine TL.copyMin (k := l.length - i) Try.underlying25 sz27 rfl rfl rfl ((((hrd.behind hi).ch0 hc40).ch hc45 (by rw [blk_adv (l := l.length) (c := c)]; intro k hk; simp [Value.ownBlock] at hk; simp; omega)).ch0 (Ch.drew [] _)) (by omega) (by omega) (by omega) (by omega) (hb45.ch0 (Ch.drew [] _)) (by rw [size_spl (by simp [cl_len]; omega)]; omega) (fun u hu => rows_one l u (List.mem_of_mem_drop (List.mem_of_mem_take hu))) (fun w54 hb54 hc54 hz54 => ?_)
      rw [List.take_of_length_le (by simp [cl_len]), List.take_of_length_le (by rw [List.length_drop, rows_len cl_len]; omega), rows_drop cl_len, List.flatMap_singleton, Nat.zero_add, Nat.zero_add] at hb54
      rw [rows_take cl_len] at ht40
      obtain ⟨e1, e2⟩ := spl_behind (cur := cur40) (A := (l.take i).flatMap cl) (B := (l.drop i).flatMap cl) (C := cl t) (by rw [hA]; exact ht40) (by omega)
      rw [show (i + 1) * 5 = ((l.take i).flatMap cl).length + (cl t).length by rw [hA, hC]; omega, show i * 5 = ((l.take i).flatMap cl).length from hA.symm] at hb54
      refine TL.done ?_
      refine Thn.go ?_
      refine TC.seq ?_
      refine TC.region ?_
      refine TL.move rfl rfl ?_
      refine TL.assign rfl rfl ?_
      refine TL.done ?_
      refine Thn.go ?_
      refine TC.ret ?_
      refine Thn.ret ?_
      refine Ends.ret [6] rfl rfl ?_
      exact ⟨⟨by rw [ins_cells, List.length_append, List.length_append]; omega, .inr ⟨w.heap.size, c40, _, by rw [show i + (l.length + 1 - i) = l.length + 1 by omega]; rfl, hbs, hb54, by omega, hm40, by rw [e1]; exact hs40, by rw [ins_cells, ← e2]; congr 1; omega⟩⟩, (((hc40.then1 hc45 (Nat.le_refl _)).trans0 (Ch.drew [] _)).then1 hc54 (Nat.le_refl _)).weaken (by simp)⟩
    ·
      have hrl : Rd w (.slice (some ⟨g, 0, none⟩) (l.length + 1) c) 5 (l.length + 1) (cur.toList.take ((l.length + 1) * 5)) := .inr ⟨g, 0, c, cur, 27, _, rfl, hcur, by omega, hcm, by omega, by simp⟩
      have e0 : ((cur.toList.take ((l.length + 1) * 5)).drop (i * 5)).take ((l.length - i) * 5) = (l.drop i).flatMap cl := by
        rw [← rows_drop cl_len, ← htk, List.drop_take, List.take_take, List.drop_take]; congr 1; omega
      refine TC.skip ?_
      refine Thn.go ?_
      refine TC.seq ?_
      refine TC.region ?_
      refine TL.move rfl rfl ?_
      refine TL.move rfl rfl ?_
      refine TL.move rfl rfl ?_
      refine TL.add_i64 rfl rfl (by omega) (by omega) rfl ?_
      refine TL.sliceTo (l.length + 1) sl25 rfl rfl (by first | rfl | omega) (by omega) rfl ?_
      refine TL.assign rfl rfl ?_
      refine TL.done ?_
      refine Thn.go ?_
      refine TC.seq ?_
      refine TC.seq ?_
      refine TC.region ?_
      refine TL.move rfl rfl ?_
      refine TL.move rfl rfl ?_
      refine TL.move rfl rfl ?_
      refine TL.move rfl rfl ?_
      refine TL.add_i64 rfl rfl (by omega) (by omega) rfl ?_
      refine TL.sliceFrom (i + 1) sl25 rfl rfl (by first | rfl | omega) (by omega) rfl ?_
      rw [adv_some (by omega)]
      refine TL.modelFn (v := .bool false) Try.func46 (by kernel_rfl) (by kernel_rfl) (by kernel_rfl) (e := Extern.SlicesOverlaps.overlaps #[25, 25] #[4]) (by kernel_rfl) rfl (run_overlaps Try.underlying25 sz27 (fun e => hap (by simp [blk, Value.ownBlock, e])) hbh hcur (by omega)) rfl ?_
      refine TL.not rfl rfl ?_
      refine TL.done ?_
      refine Thn.go ?_
      refine TC.condT rfl rfl ?_
      refine TC.seq ?_
      refine TC.regionTail 8 mixed0 (by kernel_rfl) ?_
      refine TS.via rfl rfl rfl rfl (TL.move rfl rfl (TL.done ⟨rfl, rfl⟩)) ?_
      refine TS.via rfl rfl rfl rfl (TL.move rfl rfl (TL.done ⟨rfl, rfl⟩)) ?_
      refine TS.via rfl rfl rfl rfl (TL.move rfl rfl (TL.done ⟨rfl, rfl⟩)) ?_
      refine TS.via rfl rfl rfl rfl (TL.add_i64 rfl rfl (by omega) (by omega) rfl (TL.done ⟨rfl, rfl⟩)) ?_
      refine TS.via rfl rfl rfl rfl (TL.sliceFrom (i + 1) sl25 rfl rfl (by first | rfl | omega) (by omega) rfl (TL.done ⟨rfl, rfl⟩)) ?_
      rw [adv_some (by omega)]
      refine TS.via rfl rfl rfl rfl (TL.move rfl rfl (TL.done ⟨rfl, rfl⟩)) ?_
      refine TS.via rfl rfl rfl rfl (TL.move rfl rfl (TL.done ⟨rfl, rfl⟩)) ?_
      refine TS.via rfl rfl rfl rfl (TL.sliceFrom (i) sl25 rfl rfl (by first | rfl | omega) (by omega) rfl (TL.done ⟨rfl, rfl⟩)) ?_
      refine TS.done ?_
      refine TL.copyMin (k := l.length - i) Try.underlying25 sz27 rfl rfl rfl ((hrl.behind (i := i) (by omega)).ch0 (Ch.drew [] _)) (by omega) (by omega) (by omega) (by omega) (hcur.ch0 (Ch.drew [] _)) (by omega) (by rw [e0]; exact rows_one _) (fun w77 hb77 hc77 hz77 => ?_)
      rw [e0, Nat.zero_add] at hb77
      refine TL.done ?_
      refine Thn.go ?_
      refine TC.seq ?_
      refine TC.region ?_
      refine TL.move rfl rfl ?_
      refine TL.move rfl rfl ?_
      refine TL.sliceFrom (i) sl25 rfl rfl (by first | rfl | omega) (by omega) rfl ?_
      rw [adv_some (by omega)]
      refine TL.move rfl rfl ?_
      refine TL.copyMin (k := 1) Try.underlying25 sz27 rfl rfl rfl ((hbr.ch0 (Ch.drew [] _)).ch hc77 (by intro k hk; simp [Value.ownBlock] at hk; subst hk; intro h; simp at h; exact hap (by simp [blk, Value.ownBlock, h]))) (by omega) (by omega) (by omega) (by omega) hb77 (by rw [size_spl (by omega)]; omega) (fun u hu => rows_one _ u (List.mem_of_mem_take hu)) (fun w82 hb82 hc82 hz82 => ?_)
      rw [List.take_of_length_le (by simp [cl_len]), List.flatMap_singleton, Nat.zero_add] at hb82
      obtain ⟨e1, e2⟩ := spl_between (cur := cur) (A := (l.take i).flatMap cl) (B := (l.drop i).flatMap cl) (C := cl t) (by rw [hA, hB, show i * 5 + (l.length - i) * 5 = l.length * 5 by omega, htk, ← List.flatMap_append, List.take_append_drop]) (by omega)
      rw [show (i + 1) * 5 = ((l.take i).flatMap cl).length + (cl t).length by rw [hA, hC]; omega, show i * 5 = ((l.take i).flatMap cl).length from hA.symm] at hb82
      refine TL.done ?_
      refine Thn.go ?_
      refine TC.seq ?_
      refine TC.region ?_
      refine TL.move rfl rfl ?_
      refine TL.assign rfl rfl ?_
      refine TL.done ?_
      refine Thn.go ?_
      refine TC.ret ?_
      refine Thn.ret ?_
      refine Ends.ret [6] rfl rfl ?_
      exact ⟨⟨by rw [ins_cells, List.length_append, List.length_append]; omega, .inr ⟨g, c, _, rfl, hgb, hb82, by omega, hcm, by rw [e1]; exact hcsz, by rw [ins_cells, ← e2]; congr 1; omega⟩⟩, ((Ch.drew [g] _).trans hc77 (fun x h _ => h) (fun x h _ => h)).trans hc82 (fun x h _ => by simpa [blk, Value.ownBlock] using h) (fun x h _ => by simpa [blk, Value.ownBlock] using h)⟩

theorem fn16 (a : Value) (l : List Tm.Timer) (t : Tm.Timer) (w : World) (ha : Rd w a 5 l.length (l.flatMap cl)) : Rets Try.prog 16 #[a, .agg (cl t).toArray] w (fun v w' => ∃ r, v = .tuple #[r, .int .i64 (Tm.addE l t : Int)] ∧ Own w' w.heap.size 27 5 r (Tm.addL l t).length ((Tm.addL l t).flatMap cl) ∧ Ch [] w w') := by
  obtain ⟨ad, c, rfl, _⟩ := ha.shape
  refine Rets.of (n := 38) (vs := [_, _]) Try.func16 rfl rfl rfl ?_
  refine TC.seq ?_
  refine TC.region ?_
  refine TL.box rfl rfl (fun w3 hb3 hc3 hz3 => ?_)
  replace hb3 : Has w3 w.heap.size (cl t).toArray 27 (0, 0) := hb3
  refine TL.assign rfl rfl ?_
  refine TL.assign rfl rfl ?_
  refine TL.done ?_
  refine Thn.go ?_
  refine TC.seq ?_
  refine TC.seq ?_
  refine TC.region ?_
  refine TL.move rfl rfl ?_
  refine TL.call can14 rfl rfl (fn14 _ l w3 (ha.ch0 hc3)) (fun v9 w9 hr9 => ?_)
  obtain ⟨rfl, hc9⟩ := hr9
  have q9 := hc3.trans0 hc9
  have hb9 := hb3.ch0 hc9
  refine TL.assign rfl rfl ?_
  refine TL.done ?_
  refine Thn.go ?_
  refine TC.seq ?_
  refine TC.region ?_
  refine TL.move rfl rfl ?_
  refine TL.neq rfl rfl rfl ?_
  refine TL.done ?_
  refine Thn.go ?_
  refine TC.condP rfl (fun h1 => ?_) (fun h1 => ?_)
  ·
    obtain ⟨e1, e2⟩ := Tm.add_check (t := t) (show Tm.checkE l ≠ 0 by omega)
    refine TC.seq ?_
    refine TC.region ?_
    refine TL.move rfl rfl ?_
    refine TL.assign rfl rfl ?_
    refine TL.assign rfl rfl ?_
    refine TL.done ?_
    refine Thn.go ?_
    refine TC.ret ?_
    refine Thn.ret ?_
    refine Ends.ret [4, 5] rfl rfl ?_
    exact ⟨_, by rw [e1]; rfl, by rw [e2]; exact World.ownsRow_nil _ _ _ _, q9⟩
  ·
    have h0 : Tm.checkE l = 0 := by omega
    obtain ⟨hlen, _⟩ := Tm.check_zero h0
    refine TC.skip ?_
    refine Thn.go ?_
    refine TC.seq ?_
    refine TC.block ?_
    refine TC.cut0 ([(0, .slice ad l.length c), (3, .pointer (some ⟨w.heap.size, 0, none⟩)), (13, .bool (decide (¬ Tm.may t ∨ Tm.has l t.seq)))]) (fun w2 => Ch [] w9 w2) (fun K2 hK2 => ?_) (fun w2 hH => ?_)
    ·
      refine TC.seq ?_
      refine TC.region ?_
      refine TL.loadAgg (cl t) ag27 rfl rfl (fun j _ => by rw [hb9.cell, Nat.zero_add, List.getElem?_toArray]) rfl ?_
      refine TL.call can28 rfl rfl (fn28 t w9) (fun v15 w15 hr15 => ?_)
      obtain ⟨rfl, hc15⟩ := hr15
      refine TL.notP rfl rfl ?_
      refine TL.assign rfl rfl ?_
      refine TL.done ?_
      refine Thn.go ?_
      refine TC.condP rfl (fun h3 => ?_) (fun h3 => ?_)
      ·
        refine TC.skip ?_
        exact hK2  _ _ (by repeat (first | exact trivial | refine ⟨rfl, ?_⟩ | refine ⟨congrArg (fun b => some (Value.bool b)) (by first | exact (decide_eq_true (by grind)).symm | exact (decide_eq_false (by grind)).symm | exact decide_eq_decide.2 (by grind) | exact decide_eq_true (by grind) | exact decide_eq_false (by grind) | (exfalso; grind)), ?_⟩)) (hc15)
      ·
        refine TC.region ?_
        refine TL.move rfl rfl ?_
        refine TL.fieldAddr fd27k1 rfl rfl ?_
        refine TL.load pl3 rfl ((show _ = some (Value.int .i64 t.seq) from (hb9.ch0 hc15).cell _)) rfl ?_
        refine TL.call can29 rfl rfl (fn29 _ l t.seq w15 ((ha.ch0 q9).ch0 hc15)) (fun v20 w20 hr20 => ?_)
        obtain ⟨rfl, hc20⟩ := hr20
        refine TL.assign rfl rfl ?_
        refine TL.done ?_
        exact hK2  _ _ (by repeat (first | exact trivial | refine ⟨rfl, ?_⟩ | refine ⟨congrArg (fun b => some (Value.bool b)) (by first | exact (decide_eq_true (by grind)).symm | exact (decide_eq_false (by grind)).symm | exact decide_eq_decide.2 (by grind) | exact decide_eq_true (by grind) | exact decide_eq_false (by grind) | (exfalso; grind)), ?_⟩)) (hc15.trans0 hc20)
    ·
      have q2 := q9.trans0 hH
      have hb2 := hb9.ch0 hH
      refine TC.condP rfl (fun h4 => ?_) (fun h4 => ?_)
      ·
        obtain ⟨e1, e2⟩ := Tm.add_bad h0 (by assumption : ¬ Tm.may t ∨ Tm.has l t.seq)
        refine TC.seq ?_
        refine TC.region ?_
        refine TL.assign rfl rfl ?_
        refine TL.assign rfl rfl ?_
        refine TL.done ?_
        refine Thn.go ?_
        refine TC.ret ?_
        refine Blk.ret ?_
        refine Thn.ret ?_
        refine Ends.ret [4, 5] rfl rfl ?_
        exact ⟨_, by rw [e1]; rfl, by rw [e2]; exact World.ownsRow_nil _ _ _ _, q2⟩
      ·
        refine TC.seq ?_
        refine TC.region ?_
        refine TL.move rfl rfl ?_
        refine TL.lenSlice Try.underlying25 rfl rfl ?_
        refine TL.eql rfl rfl rfl ?_
        refine TL.assign rfl rfl ?_
        refine TL.done ?_
        refine Thn.go ?_
        refine TC.condP rfl (fun h5 => ?_) (fun h5 => ?_)
        ·
          obtain ⟨e1, e2⟩ := Tm.add_many h0 (by assumption : ¬ (¬ Tm.may t ∨ Tm.has l t.seq)) (by omega)
          refine TC.seq ?_
          refine TC.region ?_
          refine TL.assign rfl rfl ?_
          refine TL.assign rfl rfl ?_
          refine TL.done ?_
          refine Thn.go ?_
          refine TC.ret ?_
          refine Blk.ret ?_
          refine Thn.ret ?_
          refine Ends.ret [4, 5] rfl rfl ?_
          exact ⟨_, by rw [e1]; rfl, by rw [e2]; exact World.ownsRow_nil _ _ _ _, q2⟩
        ·
          obtain ⟨e1, e2⟩ := Tm.add_ok h0 (by assumption : ¬ (¬ Tm.may t ∨ Tm.has l t.seq)) (by omega)
          refine TC.skip ?_
          refine Blk.go ?_
          refine Thn.go ?_
          refine TC.seq ?_
          refine TC.region ?_
          refine TL.move rfl rfl ?_
          refine TL.makeFn (cs := [.tmp 3]) (vs := [_]) rfl rfl ?_
          refine TL.call can31 rfl rfl (fn31 _ l 35 #[.pointer (some ⟨w.heap.size, 0, none⟩)] (fun x => Tm.ahead t x) can35 w2 (ha.ch0 q2) (fun x w3 h3 => by simpa using fn35 x _ t w3 (hb2.ch0 h3))) (fun v27 w27 hr27 => ?_)
          obtain ⟨⟨k, rfl, hk⟩, hc27⟩ := hr27
          have q27 := q2.trans0 hc27
          refine TL.assign rfl rfl ?_
          refine TL.done ?_
          refine Thn.go ?_
          refine TC.cut1 (fun (i : Nat) => [(0, .slice ad l.length c), (3, .pointer (some ⟨w.heap.size, 0, none⟩)), (7, .int .i64 (i : Int))]) (fun i w4 => i ≤ l.length ∧ (i < l.length → Tm.ahead t (Tm.rec l i)) ∧ (∀ j, j < i → ¬ Tm.ahead t (Tm.rec l j)) ∧ w27 = w4) (fun K6 hK6 => ?_) (fun i w4 hM => ?_)
          ·
            refine TC.seq ?_
            refine TC.region ?_
            refine TL.move rfl rfl ?_
            refine TL.lss rfl rfl rfl ?_
            refine TL.done ?_
            refine Thn.go ?_
            refine TC.condP rfl (fun h7 => ?_) (fun h7 => ?_)
            ·
              have hkn : ∀ j, j < l.length → ¬ Tm.ahead t (Tm.rec l j) := by rcases hk with ⟨_, h⟩ | ⟨i, h, _⟩; exact h; omega
              refine TC.region ?_
              refine TL.move rfl rfl ?_
              refine TL.lenSlice Try.underlying25 rfl rfl ?_
              refine TL.assign rfl rfl ?_
              refine TL.done ?_
              exact hK6 l.length _ _ (by repeat (first | exact trivial | refine ⟨rfl, ?_⟩ | refine ⟨congrArg (fun b => some (Value.bool b)) (by first | exact (decide_eq_true (by grind)).symm | exact (decide_eq_false (by grind)).symm | exact decide_eq_decide.2 (by grind) | exact decide_eq_true (by grind) | exact decide_eq_false (by grind) | (exfalso; grind)), ?_⟩)) (⟨Nat.le_refl _, fun h => by omega, hkn, rfl⟩)
            ·
              obtain ⟨i, rfl, hil, hpi, hpj⟩ : ∃ i : Nat, k = (i : Int) ∧ i < l.length ∧ Tm.ahead t (Tm.rec l i) ∧ ∀ j, j < i → ¬ Tm.ahead t (Tm.rec l j) := by rcases hk with ⟨h, _⟩ | h; omega; exact h
              refine TC.skip ?_
              exact hK6 i _ _ (by repeat (first | exact trivial | refine ⟨rfl, ?_⟩ | refine ⟨congrArg (fun b => some (Value.bool b)) (by first | exact (decide_eq_true (by grind)).symm | exact (decide_eq_false (by grind)).symm | exact decide_eq_decide.2 (by grind) | exact decide_eq_true (by grind) | exact decide_eq_false (by grind) | (exfalso; grind)), ?_⟩)) (⟨by omega, fun _ => hpi, hpj, rfl⟩)
          ·
            obtain ⟨hil, hm1, hm2, rfl⟩ := hM
            have haa := ha.ch0 q27
            have hb27 := hb2.ch0 hc27
            have hins := Tm.ins_at hil hm1 hm2
            have hlen2 : (l.take i ++ t :: l.drop i).length = l.length + 1 := by simp; omega
            refine TC.seq ?_
            refine TC.regionH (fun w4 => Ch [] w27 w4) mixed0 ?_
            have hS : (fun w4 => Ch [] w27 w4) _ := Ch.drew [] _
            refine TH.take (i := 0) rfl rfl rfl rfl rfl (by kernel_rfl) (by kernel_rfl) (by kernel_rfl) hS (fun w2 hw2 => TL.move rfl rfl (TL.done ⟨rfl, rfl⟩)) ?_
            refine TH.take (i := 2) rfl rfl rfl rfl rfl (by kernel_rfl) (by kernel_rfl) (by kernel_rfl) hS (fun w2 hw2 => TL.move rfl rfl (TL.done ⟨rfl, rfl⟩)) ?_
            refine TH.take (i := 3) rfl rfl rfl rfl rfl (by kernel_rfl) (by kernel_rfl) (by kernel_rfl) hS (fun w2 hw2 => TL.loadAgg (cl t) ag27 rfl rfl (fun j _ => by rw [(hb27.ch0 hw2).cell, Nat.zero_add, List.getElem?_toArray]) rfl (TL.done ⟨rfl, rfl⟩)) ?_
            refine TH.two (i := 1) (j := 4) (by kernel_rfl) rfl rfl rfl rfl ?_ ?_
            ·
              refine TL.call can33 rfl rfl (fn33 _ l (by omega) _ (Rd.ch0 haa hS)) (fun v33 w33 hr33 => ?_)
              obtain ⟨hv33, hc33⟩ := hr33
              have hS : (fun w4 => Ch [] w27 w4) _ := Ch.trans0 hS hc33
              refine TL.done ⟨hS, ?_⟩
              refine TH.one (i := 4) (by kernel_rfl) rfl rfl ?_
              refine TL.buildSlice [.tmp 35] sl25 rfl rfl rfl (by decide) (by first | simp [Value.cells]; done | simp [Value.cells, cl_len]; done) rfl (fun w36 hb36 hc36 hz36 => ?_)
              have hS : (fun w4 => Ch [] w27 w4) _ := Ch.trans0 hS hc36
              refine TL.done ⟨hS, ?_⟩
              refine TH.one (i := 5) (by kernel_rfl) rfl rfl ?_
              refine TL.call can36 rfl rfl (fn36 _ _ l i t _ (by omega) hil w36 (by have := hc33.size; have := hc36.size; omega) (hv33.ch0 hc36) hb36 (hv33.notlast (Nat.le_refl _))) (fun v37 w37 hr37 => ?_)
              obtain ⟨hv37, hc37⟩ := hr37
              have hS : (fun w4 => Ch [] w27 w4) _ := (hv33.ch0 hc36).thenCh' hS hc37 (Nat.le_refl _)
              refine TL.done ⟨hS, ?_⟩
              refine TH.take (i := 6) rfl rfl rfl rfl rfl (by kernel_rfl) (by kernel_rfl) (by kernel_rfl) hS (fun w2 hw2 => TL.assign rfl rfl (TL.done ⟨rfl, rfl⟩)) ?_
              refine TH.take (i := 7) rfl rfl rfl rfl rfl (by kernel_rfl) (by kernel_rfl) (by kernel_rfl) hS (fun w2 hw2 => TL.assign rfl rfl (TL.done ⟨rfl, rfl⟩)) ?_
              refine TH.done (by kernel_rfl) ?_
              have g12 : Ch [] w w37 := Ch.trans0 q27 hS
              refine Thn.go ?_
              refine TC.ret ?_
              refine Ends.ret [4, 5] rfl rfl ?_
              exact ⟨_, by rw [e1]; rfl, by rw [e2, hins, hlen2]; exact hv37.base q27.size, g12⟩
            ·
              refine TL.buildSlice [.tmp 35] sl25 rfl rfl rfl (by decide) (by first | simp [Value.cells]; done | simp [Value.cells, cl_len]; done) rfl (fun w36 hb36 hc36 hz36 => ?_)
              have hS : (fun w4 => Ch [] w27 w4) _ := Ch.trans0 hS hc36
              refine TL.done ⟨hS, ?_⟩
              refine TH.one (i := 1) (by kernel_rfl) rfl rfl ?_
              refine TL.call can33 rfl rfl (fn33 _ l (by omega) _ (Rd.ch0 haa hS)) (fun v33 w33 hr33 => ?_)
              obtain ⟨hv33, hc33⟩ := hr33
              have hS : (fun w4 => Ch [] w27 w4) _ := Ch.trans0 hS hc33
              refine TL.done ⟨hS, ?_⟩
              refine TH.one (i := 5) (by kernel_rfl) rfl rfl ?_
              refine TL.call can36 rfl rfl (fn36 _ _ l i t _ (by omega) hil w33 (by have := hc33.size; omega) hv33 (hb36.ch0 hc33) (hv33.notin hb36.lt)) (fun v37 w37 hr37 => ?_)
              obtain ⟨hv37, hc37⟩ := hr37
              have hS : (fun w4 => Ch [] w27 w4) _ := hv33.thenCh' hS hc37 hc36.size
              refine TL.done ⟨hS, ?_⟩
              refine TH.take (i := 6) rfl rfl rfl rfl rfl (by kernel_rfl) (by kernel_rfl) (by kernel_rfl) hS (fun w2 hw2 => TL.assign rfl rfl (TL.done ⟨rfl, rfl⟩)) ?_
              refine TH.take (i := 7) rfl rfl rfl rfl rfl (by kernel_rfl) (by kernel_rfl) (by kernel_rfl) hS (fun w2 hw2 => TL.assign rfl rfl (TL.done ⟨rfl, rfl⟩)) ?_
              refine TH.done (by kernel_rfl) ?_
              have g12 : Ch [] w w37 := Ch.trans0 q27 hS
              refine Thn.go ?_
              refine TC.ret ?_
              refine Ends.ret [4, 5] rfl rfl ?_
              exact ⟨_, by rw [e1]; rfl, by rw [e2, hins, hlen2]; exact hv37.base (Nat.le_trans q27.size hc36.size), g12⟩

