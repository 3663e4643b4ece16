/-
  Walks through the given program: each theorem fnN says what the call of function N of the translation hands back, for all arguments that its premises describe, and that nothing that was there has turned.
-/
import Derived.Test.YtjnagpddiemdhaaW6
import Derived.Test.YtjnagpddiemdhaaWk3
import Derived.Test.YtjnagpddiemdhaaLaneL
namespace Go.Proofs.Ytjnagpddiemdhaa
open Go.Lane
theorem sz5 : (Try.prog.info? 5).map (·.size) = some 1 := by kernel_rfl
theorem sz9 : (Try.prog.info? 9).map (·.size) = some 1 := by kernel_rfl

theorem fn46 (x : Wk.Work) (b : Nat) (id : Int) (w : World) (hu : Has w b #[.int .i64 id] 3 (0, 0)) : Rets Try.prog 46 #[.agg (cl x).toArray, .pointer (some ⟨b, 0, none⟩)] w (fun v w' => v = .bool (decide (x.id = id)) ∧ Ch [] w w') := by
  refine Rets.of (n := 8) (vs := [_, _]) Try.func46 rfl rfl rfl ?_
  refine TC.seq ?_
  refine TC.region ?_
  refine TL.box rfl rfl (fun w2 hb2 hc2 hz2 => ?_)
  refine TL.assign rfl rfl ?_
  refine TL.done ?_
  refine Thn.go ?_
  refine TC.seq ?_
  refine TC.region ?_
  refine TL.fieldAddr fd33k0 rfl rfl ?_
  refine TL.load pl3 rfl (hb2.cell _) rfl ?_
  refine TL.load pl3 rfl ((hu.ch0 hc2).cell _) rfl ?_
  refine TL.eql rfl rfl rfl ?_
  refine TL.assign rfl rfl ?_
  refine TL.done ?_
  refine Thn.go ?_
  refine TC.ret ?_
  refine Ends.ret [3] rfl rfl ?_
  exact ⟨rfl, hc2⟩

theorem fn36 (x : Wk.Work) (b : Nat) (u : List UInt8) (w : World) (hu : Has w b #[str u] 9 (0, 0)) : Rets Try.prog 36 #[.agg (cl x).toArray, .pointer (some ⟨b, 0, none⟩)] w (fun v w' => v = .tuple #[.agg (cl (Wk.tw x u 1 2 u)).toArray, .int .i64 (Wk.te x u 1 : Int)] ∧ Ch [] w w') := by
  refine Rets.of (n := 13) (vs := [_, _]) Try.func36 rfl rfl rfl ?_
  refine TC.seq ?_
  refine TC.region ?_
  refine TL.box rfl rfl (fun w2 hb2 hc2 hz2 => ?_)
  replace hb2 : Has w2 w.heap.size (cl x).toArray 33 (0, 0) := hb2
  refine TL.alloc ze33 rfl (fun w3 hb3 hc3 hz3 => ?_)
  refine TL.assign rfl rfl ?_
  refine TL.done ?_
  refine Thn.go ?_
  refine TC.seq ?_
  refine TC.seq ?_
  refine TC.region ?_
  refine TL.fieldAddr fd33k4 rfl rfl ?_
  refine TL.load pl5 rfl ((hb2.ch0 hc3).cell _) rfl ?_
  refine TL.neq rfl rfl rfl ?_
  refine TL.done ?_
  refine Thn.go ?_
  refine TC.condP rfl (fun h1 => ?_) (fun h1 => ?_)
  ·
    have hf : ¬ Wk.fit x u 1 := fun h => by have := h.1; omega
    refine TC.seq ?_
    refine TC.region ?_
    refine TL.loadAgg (cl x) ag33 rfl rfl (fun j _ => by rw [(hb2.ch0 hc3).cell, Nat.zero_add, List.getElem?_toArray]) rfl ?_
    refine TL.store sz33 rfl rfl rfl hb3 (by simp [Value.cells]) (by simpa [Value.cells] using cl_one x) (.inl rfl) (fun ws1 hbs1 hcs1 hzs1 => ?_)
    replace hbs1 : Has ws1 w2.heap.size (cl x).toArray 33 (0, 0) := hbs1.setAll rfl
    refine TL.assign rfl rfl ?_
    refine TL.done ?_
    refine Thn.go ?_
    refine TC.ret ?_
    refine Thn.ret ?_
    refine Ends.cell2 (cl x) (.inl rfl) rfl ag33 rfl rfl (fun j _ => by rw [hbs1.cell, Nat.zero_add, List.getElem?_toArray]) rfl ?_
    exact ⟨by rw [Wk.te_no hf, Wk.tw_no hf]; rfl, (hc2.trans0 hc3).then1 hcs1 hc2.size⟩
  ·
    have hf : Wk.fit x u 1 := ⟨by omega, by omega⟩
    refine TC.skip ?_
    refine Thn.go ?_
    refine TC.seq ?_
    refine TC.regionH (fun w' => Has w' b #[str u] 9 (0, 0)) mixed0 ?_
    have hS : (fun w' => Has w' b #[str u] 9 (0, 0)) _ := ((hu.ch0 hc2).ch0 hc3).ch0 (Ch.drew [] _)
    refine TH.take (i := 0) rfl rfl rfl rfl rfl (by kernel_rfl) (by kernel_rfl) (by kernel_rfl) hS (fun w2 hw2 => TL.load pl9 rfl (Has.cell hw2 0) rfl (TL.done ⟨rfl, rfl⟩)) ?_
    refine TH.take (i := 1) rfl rfl rfl rfl rfl (by kernel_rfl) (by kernel_rfl) (by kernel_rfl) hS (fun w2 hw2 => TL.fieldAddr fd33k4 rfl rfl (TL.done ⟨rfl, rfl⟩)) ?_
    refine TH.one (i := 2) (by kernel_rfl) rfl rfl ?_
    refine TL.store sz5 rfl rfl rfl ((hb2.ch0 hc3).ch0 (Ch.drew [] _)) (by show 0 + 4 + 1 ≤ 6; omega) (by simp [Value.cells, Value.oneCell']) (.inl rfl) (fun ws2 hbs2 hcs2 hzs2 => ?_)
    replace hbs2 : Has ws2 w.heap.size (cl { x with state := 2 }).toArray 33 (0, 0) := hbs2
    have hS : (fun w' => Has w' b #[str u] 9 (0, 0)) _ := Has.ch hS hcs2 (by have := hu.lt; simp; omega)
    refine TL.done ⟨hS, ?_⟩
    refine TH.take (i := 3) rfl rfl rfl rfl rfl (by kernel_rfl) (by kernel_rfl) (by kernel_rfl) hS (fun w2 hw2 => TL.fieldAddr fd33k5 rfl rfl (TL.done ⟨rfl, rfl⟩)) ?_
    refine TH.one (i := 4) (by kernel_rfl) rfl rfl ?_
    refine TL.store sz9 rfl rfl rfl hbs2 (by show 0 + 5 + 1 ≤ 6; omega) (by simp [Value.cells, str, Value.oneCell']) (.inl rfl) (fun ws3 hbs3 hcs3 hzs3 => ?_)
    replace hbs3 : Has ws3 w.heap.size (cl { x with state := 2, owner := u }).toArray 33 (0, 0) := hbs3
    have hb3' := ((hb3.ch0 (Ch.drew [] _)).ch hcs2 (by simp; omega)).ch hcs3 (by simp; omega)
    have hS : (fun w' => Has w' b #[str u] 9 (0, 0)) _ := Has.ch hS hcs3 (by have := hu.lt; simp; omega)
    refine TL.done ⟨hS, ?_⟩
    refine TH.done (by kernel_rfl) ?_
    refine Thn.go ?_
    refine TC.seq ?_
    refine TC.region ?_
    refine TL.loadAgg (cl { x with state := 2, owner := u }) ag33 rfl rfl (fun j _ => by rw [hbs3.cell, Nat.zero_add, List.getElem?_toArray]) rfl ?_
    refine TL.store sz33 rfl rfl rfl hb3' (by simp [Value.cells]) (by simpa [Value.cells] using cl_one { x with state := 2, owner := u }) (.inl rfl) (fun ws4 hbs4 hcs4 hzs4 => ?_)
    replace hbs4 : Has ws4 w2.heap.size (cl { x with state := 2, owner := u }).toArray 33 (0, 0) := hbs4.setAll rfl
    refine TL.assign rfl rfl ?_
    refine TL.done ?_
    refine Thn.go ?_
    refine TC.ret ?_
    refine Ends.cell2 (cl { x with state := 2, owner := u }) (.inl rfl) rfl ag33 rfl rfl (fun j _ => by rw [hbs4.cell, Nat.zero_add, List.getElem?_toArray]) rfl ?_
    exact ⟨by rw [Wk.te_yes hf, Wk.tw_yes hf]; rfl, ((((hc2.trans0 hc3).trans0 (Ch.drew [] _)).then1 hcs2 (Nat.le_refl _)).then1 hcs3 (Nat.le_refl _)).then1 hcs4 hc2.size⟩

theorem fn47 (x : Wk.Work) (b1 b2 b3 : Nat) (u o : List UInt8) (to : UInt8) (w : World) (hu : Has w b1 #[str u] 9 (0, 0)) (hs : Has w b2 #[u8 to] 5 (0, 0)) (ho : Has w b3 #[str o] 9 (0, 0)) : Rets Try.prog 47 #[.agg (cl x).toArray, .pointer (some ⟨b1, 0, none⟩), .pointer (some ⟨b2, 0, none⟩), .pointer (some ⟨b3, 0, none⟩)] w (fun v w' => v = .tuple #[.agg (cl (Wk.tw x u 2 to o)).toArray, .int .i64 (Wk.te x u 2 : Int)] ∧ Ch [] w w') := by
  have hfi : Wk.fit x u 2 ↔ (x.state.toNat : Int) = 2 ∧ x.owner = u := by unfold Wk.fit; constructor <;> (rintro ⟨a1, a2⟩); exact ⟨by omega, a2 rfl⟩; exact ⟨by omega, fun _ => a2⟩
  refine Rets.of (n := 22) (vs := [_, _, _, _]) Try.func47 rfl rfl rfl ?_
  refine TC.seq ?_
  refine TC.region ?_
  refine TL.box rfl rfl (fun w4 hb4 hc4 hz4 => ?_)
  replace hb4 : Has w4 w.heap.size (cl x).toArray 33 (0, 0) := hb4
  refine TL.alloc ze33 rfl (fun w5 hb5 hc5 hz5 => ?_)
  refine TL.assign rfl rfl ?_
  refine TL.done ?_
  refine Thn.go ?_
  refine TC.seq ?_
  refine TC.regionBool (d := 15) (p := ¬ Wk.fit x u 2) (fun K1 hK1 => ?_) ?_
  ·
    refine TL.fieldAddr fd33k4 rfl rfl ?_
    refine TL.load pl5 rfl ((hb4.ch0 hc5).cell _) rfl ?_
    refine TL.neq rfl rfl rfl ?_
    refine TL.em (fun e9 => ?_) (fun e9 => ?_)
    ·
      refine TL.move rfl rfl ?_
      refine TL.guardNo (d := 10) rfl rfl rfl rfl rfl ?_
      refine TL.guardNo (d := 10) rfl rfl rfl rfl rfl ?_
      refine TL.guardNo (d := 10) rfl rfl rfl rfl rfl ?_
      refine TL.guardNo (d := 10) rfl rfl rfl rfl rfl ?_
      refine TL.pickT rfl rfl rfl rfl ?_
      refine TL.done ?_
      refine hK1 _ ?_
      refine Le.here rfl (by first | exact decide_eq_true (by omega) | exact decide_eq_false (by omega) | exact decide_eq_decide.2 (by omega) | exact decide_eq_true (by grind) | exact decide_eq_false (by grind) | exact decide_eq_decide.2 (by grind)) ?_
      repeat (first | exact Le.refl _ | refine Le.skip rfl ?_)
    ·
      refine TL.move rfl rfl ?_
      refine TL.guardYes (d := 10) rfl rfl rfl ?_
      refine TL.fieldAddr fd33k5 rfl rfl ?_
      refine TL.guardYes (d := 10) rfl rfl rfl ?_
      refine TL.load pl9 rfl ((hb4.ch0 hc5).cell _) rfl ?_
      refine TL.guardYes (d := 10) rfl rfl rfl ?_
      refine TL.load pl9 rfl (((hu.ch0 hc4).ch0 hc5).cell 0) rfl ?_
      refine TL.guardYes (d := 10) rfl rfl rfl ?_
      refine TL.neqStr rfl rfl rfl ?_
      refine TL.pickF rfl rfl rfl rfl ?_
      refine TL.done ?_
      refine hK1 _ ?_
      refine Le.here rfl (by first | exact decide_eq_true (by omega) | exact decide_eq_false (by omega) | exact decide_eq_decide.2 (by omega) | exact decide_eq_true (by grind) | exact decide_eq_false (by grind) | exact decide_eq_decide.2 (by grind)) ?_
      repeat (first | exact Le.refl _ | refine Le.skip rfl ?_)
  refine TC.condP rfl (fun h3 => ?_) (fun h3 => ?_)
  ·
    have hf : ¬ Wk.fit x u 2 := by assumption
    refine TC.seq ?_
    refine TC.region ?_
    refine TL.loadAgg (cl x) ag33 rfl rfl (fun j _ => by rw [(hb4.ch0 hc5).cell, Nat.zero_add, List.getElem?_toArray]) rfl ?_
    refine TL.store sz33 rfl rfl rfl hb5 (by simp [Value.cells]) (by simpa [Value.cells] using cl_one x) (.inl rfl) (fun ws1 hbs1 hcs1 hzs1 => ?_)
    replace hbs1 : Has ws1 w4.heap.size (cl x).toArray 33 (0, 0) := hbs1.setAll rfl
    refine TL.assign rfl rfl ?_
    refine TL.done ?_
    refine Thn.go ?_
    refine TC.ret ?_
    refine Thn.ret ?_
    refine Ends.cell2 (cl x) (.inl rfl) rfl ag33 rfl rfl (fun j _ => by rw [hbs1.cell, Nat.zero_add, List.getElem?_toArray]) rfl ?_
    exact ⟨by rw [Wk.te_no hf, Wk.tw_no hf]; rfl, (hc4.trans0 hc5).then1 hcs1 hc4.size⟩
  ·
    have hf : Wk.fit x u 2 := Decidable.not_not.1 (by assumption)
    refine TC.skip ?_
    refine Thn.go ?_
    refine TC.seq ?_
    refine TC.regionH (fun w' => Has w' b2 #[u8 to] 5 (0, 0) ∧ Has w' b3 #[str o] 9 (0, 0)) mixed0 ?_
    have hS : (fun w' => Has w' b2 #[u8 to] 5 (0, 0) ∧ Has w' b3 #[str o] 9 (0, 0)) _ := ⟨((hs.ch0 hc4).ch0 hc5).ch0 (Ch.drew [] _), ((ho.ch0 hc4).ch0 hc5).ch0 (Ch.drew [] _)⟩
    refine TH.take (i := 0) rfl rfl rfl rfl rfl (by kernel_rfl) (by kernel_rfl) (by kernel_rfl) hS (fun w2 hw2 => TL.load pl5 rfl (hw2.1.cell 0) rfl (TL.done ⟨rfl, rfl⟩)) ?_
    refine TH.take (i := 1) rfl rfl rfl rfl rfl (by kernel_rfl) (by kernel_rfl) (by kernel_rfl) hS (fun w2 hw2 => TL.load pl9 rfl (hw2.2.cell 0) rfl (TL.done ⟨rfl, rfl⟩)) ?_
    refine TH.take (i := 2) rfl rfl rfl rfl rfl (by kernel_rfl) (by kernel_rfl) (by kernel_rfl) hS (fun w2 hw2 => TL.fieldAddr fd33k4 rfl rfl (TL.done ⟨rfl, rfl⟩)) ?_
    refine TH.one (i := 3) (by kernel_rfl) rfl rfl ?_
    refine TL.store sz5 rfl rfl rfl ((hb4.ch0 hc5).ch0 (Ch.drew [] _)) (by show 0 + 4 + 1 ≤ 6; omega) (by simp [Value.cells, u8, Value.oneCell']) (.inl rfl) (fun ws2 hbs2 hcs2 hzs2 => ?_)
    replace hbs2 : Has ws2 w.heap.size (cl { x with state := to }).toArray 33 (0, 0) := hbs2
    have hS : (fun w' => Has w' b2 #[u8 to] 5 (0, 0) ∧ Has w' b3 #[str o] 9 (0, 0)) _ := ⟨hS.1.ch hcs2 (by have := hs.lt; simp; omega), hS.2.ch hcs2 (by have := ho.lt; simp; omega)⟩
    refine TL.done ⟨hS, ?_⟩
    refine TH.take (i := 4) rfl rfl rfl rfl rfl (by kernel_rfl) (by kernel_rfl) (by kernel_rfl) hS (fun w2 hw2 => TL.fieldAddr fd33k5 rfl rfl (TL.done ⟨rfl, rfl⟩)) ?_
    refine TH.one (i := 5) (by kernel_rfl) rfl rfl ?_
    refine TL.store sz9 rfl rfl rfl hbs2 (by show 0 + 5 + 1 ≤ 6; omega) (by simp [Value.cells, str, Value.oneCell']) (.inl rfl) (fun ws3 hbs3 hcs3 hzs3 => ?_)
    replace hbs3 : Has ws3 w.heap.size (cl { x with state := to, owner := o }).toArray 33 (0, 0) := hbs3
    have hb5' := ((hb5.ch0 (Ch.drew [] _)).ch hcs2 (by simp; omega)).ch hcs3 (by simp; omega)
    have hS : (fun w' => Has w' b2 #[u8 to] 5 (0, 0) ∧ Has w' b3 #[str o] 9 (0, 0)) _ := ⟨hS.1.ch hcs3 (by have := hs.lt; simp; omega), hS.2.ch hcs3 (by have := ho.lt; simp; omega)⟩
    refine TL.done ⟨hS, ?_⟩
    refine TH.done (by kernel_rfl) ?_
    refine Thn.go ?_
    refine TC.seq ?_
    refine TC.region ?_
    refine TL.loadAgg (cl { x with state := to, owner := o }) ag33 rfl rfl (fun j _ => by rw [hbs3.cell, Nat.zero_add, List.getElem?_toArray]) rfl ?_
    refine TL.store sz33 rfl rfl rfl hb5' (by simp [Value.cells]) (by simpa [Value.cells] using cl_one { x with state := to, owner := o }) (.inl rfl) (fun ws4 hbs4 hcs4 hzs4 => ?_)
    replace hbs4 : Has ws4 w4.heap.size (cl { x with state := to, owner := o }).toArray 33 (0, 0) := hbs4.setAll rfl
    refine TL.assign rfl rfl ?_
    refine TL.done ?_
    refine Thn.go ?_
    refine TC.ret ?_
    refine Ends.cell2 (cl { x with state := to, owner := o }) (.inl rfl) rfl ag33 rfl rfl (fun j _ => by rw [hbs4.cell, Nat.zero_add, List.getElem?_toArray]) rfl ?_
    exact ⟨by rw [Wk.te_yes hf, Wk.tw_yes hf]; rfl, ((((hc4.trans0 hc5).trans0 (Ch.drew [] _)).then1 hcs2 (Nat.le_refl _)).then1 hcs3 (Nat.le_refl _)).then1 hcs4 hc4.size⟩

theorem fn40 (x : Wk.Work) (b1 b2 : Nat) (c : Int) (s : List UInt8) (w : World) (hu : Has w b1 #[.int .i64 c] 3 (0, 0)) (hs : Has w b2 #[str s] 9 (0, 0)) : Rets Try.prog 40 #[.agg (cl x).toArray, .pointer (some ⟨b1, 0, none⟩), .pointer (some ⟨b2, 0, none⟩)] w (fun v w' => v = .bool (decide (Wk.dropped x c s)) ∧ Ch [] w w') := by
  have hfi : Wk.dropped x c s ↔ x.cas = c ∧ x.stage = s ∧ (x.state.toNat : Int) ≠ 3 := by unfold Wk.dropped; constructor <;> (rintro ⟨a1, a2, a3⟩; exact ⟨a1, a2, by omega⟩)
  refine Rets.of (n := 20) (vs := [_, _, _]) Try.func40 rfl rfl rfl ?_
  refine TC.seq ?_
  refine TC.region ?_
  refine TL.box rfl rfl (fun w3 hb3 hc3 hz3 => ?_)
  refine TL.assign rfl rfl ?_
  refine TL.done ?_
  refine Thn.go ?_
  refine TC.cut0 ([(4, .bool (decide (Wk.dropped x c s)))]) (fun w2 => w2 = w3) (fun K1 hK1 => ?_) (fun w2 hH => ?_)
  ·
    refine TC.region ?_
    refine TL.fieldAddr fd33k1 rfl rfl ?_
    refine TL.load pl3 rfl (hb3.cell _) rfl ?_
    refine TL.load pl3 rfl ((hu.ch0 hc3).cell 0) rfl ?_
    refine TL.eql rfl rfl rfl ?_
    refine TL.em (fun e8 => ?_) (fun e8 => ?_)
    ·
      refine TL.move rfl rfl ?_
      refine TL.guardYes (d := 9) rfl rfl rfl ?_
      refine TL.fieldAddr fd33k2 rfl rfl ?_
      refine TL.guardYes (d := 9) rfl rfl rfl ?_
      refine TL.load pl9 rfl (hb3.cell _) rfl ?_
      refine TL.guardYes (d := 9) rfl rfl rfl ?_
      refine TL.load pl9 rfl ((hs.ch0 hc3).cell 0) rfl ?_
      refine TL.guardYes (d := 9) rfl rfl rfl ?_
      refine TL.eqlStr rfl rfl rfl ?_
      refine TL.em (fun e13 => ?_) (fun e13 => ?_)
      ·
        refine TL.pickT rfl rfl rfl rfl ?_
        refine TL.move rfl rfl ?_
        refine TL.guardYes (d := 15) rfl rfl rfl ?_
        refine TL.fieldAddr fd33k4 rfl rfl ?_
        refine TL.guardYes (d := 15) rfl rfl rfl ?_
        refine TL.load pl5 rfl (hb3.cell _) rfl ?_
        refine TL.guardYes (d := 15) rfl rfl rfl ?_
        refine TL.neq rfl rfl rfl ?_
        refine TL.pickT rfl rfl rfl rfl ?_
        refine TL.assign rfl rfl ?_
        refine TL.done ?_
        exact hK1  _ _ (by repeat (first | exact trivial | refine ⟨rfl, ?_⟩ | refine ⟨congrArg (fun b => some (Value.bool b)) (by first | exact (decide_eq_true (by grind)).symm | exact (decide_eq_false (by grind)).symm | exact decide_eq_decide.2 (by grind) | exact decide_eq_true (by grind) | exact decide_eq_false (by grind) | (exfalso; grind)), ?_⟩)) (rfl)
      ·
        refine TL.pickT rfl rfl rfl rfl ?_
        refine TL.move rfl rfl ?_
        refine TL.guardNo (d := 15) rfl rfl rfl rfl rfl ?_
        refine TL.guardNo (d := 15) rfl rfl rfl rfl rfl ?_
        refine TL.guardNo (d := 15) rfl rfl rfl rfl rfl ?_
        refine TL.pickF rfl rfl rfl rfl ?_
        refine TL.assign rfl rfl ?_
        refine TL.done ?_
        exact hK1  _ _ (by repeat (first | exact trivial | refine ⟨rfl, ?_⟩ | refine ⟨congrArg (fun b => some (Value.bool b)) (by first | exact (decide_eq_true (by grind)).symm | exact (decide_eq_false (by grind)).symm | exact decide_eq_decide.2 (by grind) | exact decide_eq_true (by grind) | exact decide_eq_false (by grind) | (exfalso; grind)), ?_⟩)) (rfl)
    ·
      refine TL.move rfl rfl ?_
      refine TL.guardNo (d := 9) rfl rfl rfl rfl rfl ?_
      refine TL.guardNo (d := 9) rfl rfl rfl rfl rfl ?_
      refine TL.guardNo (d := 9) rfl rfl rfl rfl rfl ?_
      refine TL.guardNo (d := 9) rfl rfl rfl rfl rfl ?_
      refine TL.pickF rfl rfl rfl rfl ?_
      refine TL.move rfl rfl ?_
      refine TL.guardNo (d := 15) rfl rfl rfl rfl rfl ?_
      refine TL.guardNo (d := 15) rfl rfl rfl rfl rfl ?_
      refine TL.guardNo (d := 15) rfl rfl rfl rfl rfl ?_
      refine TL.pickF rfl rfl rfl rfl ?_
      refine TL.assign rfl rfl ?_
      refine TL.done ?_
      exact hK1  _ _ (by repeat (first | exact trivial | refine ⟨rfl, ?_⟩ | refine ⟨congrArg (fun b => some (Value.bool b)) (by first | exact (decide_eq_true (by grind)).symm | exact (decide_eq_false (by grind)).symm | exact decide_eq_decide.2 (by grind) | exact decide_eq_true (by grind) | exact decide_eq_false (by grind) | (exfalso; grind)), ?_⟩)) (rfl)
  ·
    refine TC.ret ?_
    refine Ends.ret [4] rfl rfl ?_
    exact ⟨rfl, by subst hH; exact hc3⟩

theorem fn48 (a : Value) (l : List Wk.Work) (f : FuncId) (lb : Array Value) (p : Wk.Work → Prop) [DecidablePred p] (hf : Callable Try.prog f) (w : World) (ha : Rd w a 6 l.length (l.flatMap cl)) (hp : ∀ x w2, Ch [] w w2 → Rets Try.prog f (#[.agg (cl x).toArray] ++ lb) w2 (fun v w3 => v = .bool (decide (p x)) ∧ Ch [] w2 w3)) : Rets Try.prog 48 #[a, .func (.func f) #[] lb] w (fun v w' => (∃ k : Int, v = .int .i64 k ∧ ((k = -1 ∧ ∀ j, j < l.length → ¬ p (Wk.rec l j)) ∨ ∃ i : Nat, k = (i : Int) ∧ i < l.length ∧ p (Wk.rec l i) ∧ ∀ j, j < i → ¬ p (Wk.rec l j))) ∧ Ch [] w w') := by
  obtain ⟨ad, c, rfl, _⟩ := ha.shape
  have hmx : l.length ≤ 9223372036854775807 := ha.nlt
  refine Rets.of (n := 19) (vs := [_, _]) Try.func48 rfl rfl rfl ?_
  refine TC.seq ?_
  refine TC.region ?_
  refine TL.assign rfl rfl ?_
  refine TL.done ?_
  refine Thn.go ?_
  refine TC.seq ?_
  refine TC.seq ?_
  refine TC.region ?_
  refine TL.move rfl rfl ?_
  refine TL.lenSlice Try.underlying22 rfl rfl ?_
  refine TL.move rfl rfl ?_
  refine TL.done ?_
  refine Thn.go ?_
  refine TC.block ?_
  refine TC.loop1 (fun (i : Nat) => [(0, .slice ad l.length c), (1, .func (.func f) #[] lb), (7, .int .i64 (l.length : Int)), (8, .int .i64 (i : Int))]) (fun i w' => i ≤ l.length ∧ (∀ j, j < i → ¬ p (Wk.rec l j)) ∧ Ch [] w w') (fun i => l.length - i) 0 (by repeat (first | exact trivial | refine ⟨rfl, ?_⟩)) (⟨by omega, by intro j hj; omega, Ch.refl _ _⟩) (fun i w' hH => ?_)
  obtain ⟨hi, hg, hch⟩ := hH
  refine TC.seq ?_
  refine TC.region ?_
  refine TL.lss rfl rfl rfl ?_
  refine TL.done ?_
  refine Thn.go ?_
  refine TC.seq ?_
  refine TC.condP rfl (fun h1 => ?_) (fun h1 => ?_)
  ·
    have hil : i < l.length := by omega
    obtain ⟨b1, o1, rfl, hce⟩ := recAt (ha.ch0 hch) hil
    refine TC.skip ?_
    refine Thn.go ?_
    refine TC.seq ?_
    refine TC.block ?_
    refine TC.seq ?_
    refine TC.region ?_
    refine TL.move rfl rfl ?_
    refine TL.assign rfl rfl ?_
    refine TL.done ?_
    refine Thn.go ?_
    refine TC.seq ?_
    refine TC.region ?_
    refine TL.move rfl rfl ?_
    refine TL.move rfl rfl ?_
    refine TL.move rfl rfl ?_
    refine TL.indexAddr (i) sl22 rfl rfl (by first | rfl | omega) (by omega) rfl ?_
    refine TL.loadAgg (cl (Wk.rec l i)) ag33 rfl rfl (fun j hj => hce j hj) rfl ?_
    refine TL.callVal hf (R := fun v w2 => v = .bool (decide (p (Wk.rec l i))) ∧ Ch [] w' w2) rfl rfl rfl (by simpa using hp (Wk.rec l i) w' hch) (fun v16 w16 hr16 => ?_)
    obtain ⟨rfl, hc16⟩ := hr16
    refine TL.done ?_
    refine Thn.go ?_
    refine TC.condP rfl (fun h2 => ?_) (fun h2 => ?_)
    ·
      refine TC.seq ?_
      refine TC.region ?_
      refine TL.move rfl rfl ?_
      refine TL.assign rfl rfl ?_
      refine TL.done ?_
      refine Thn.go ?_
      refine TC.ret ?_
      refine Blk.ret ?_
      refine Thn.ret ?_
      refine Lp.ret ?_
      refine Blk.ret ?_
      refine Thn.ret ?_
      refine Ends.ret [4] rfl rfl ?_
      exact ⟨⟨_, rfl, .inr ⟨i, rfl, hil, by assumption, hg⟩⟩, hch.trans0 hc16⟩
    ·
      refine TC.skip ?_
      refine Blk.go ?_
      refine Thn.go ?_
      refine TC.region ?_
      refine TL.add_i64 rfl rfl (by omega) (by omega) rfl ?_
      refine TL.move rfl rfl ?_
      refine TL.done ?_
      refine Lp.go (i + 1) (by repeat (first | exact trivial | refine ⟨rfl, ?_⟩)) ?_ (by first | omega | (dsimp only; omega))
      refine ⟨by omega, fun j hj => ?_, hch.trans0 hc16⟩
      rcases Nat.lt_or_ge j i with h | h
      · exact hg j h
      · rw [show j = i by omega]; assumption
  ·
    have hil : i = l.length := by omega
    subst hil
    refine TC.exit ?_
    refine Thn.exit ?_
    refine Lp.exit ?_
    refine Blk.hit ?_
    refine Thn.go ?_
    refine TC.seq ?_
    refine TC.region ?_
    refine TL.assign rfl rfl ?_
    refine TL.done ?_
    refine Thn.go ?_
    refine TC.ret ?_
    refine Ends.ret [4] rfl rfl ?_
    exact ⟨⟨_, rfl, .inl ⟨rfl, hg⟩⟩, hch⟩

