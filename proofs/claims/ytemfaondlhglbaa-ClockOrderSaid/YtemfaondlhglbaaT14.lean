/-
  Walks through the given program: each theorem fnN says what the call of function N of the translation hands back, for all arguments that its premises describe, and that nothing that was there has turned.
-/
import Derived.Test.YtemfaondlhglbaaT13
import Derived.Test.YtemfaondlhglbaaT11
namespace Go.Proofs.Ytemfaondlhglbaa
open Go.Lane
theorem can24 : Callable Try.prog 24 := ⟨Try.f24, Try.func24, by kernel_rfl, rfl⟩
theorem can30 : Callable Try.prog 30 := ⟨Try.f30, Try.func30, by kernel_rfl, rfl⟩
theorem fd56k0 : FieldT Try.prog 56 0 54 0 1 := ⟨_, _, Try.underlying56, rfl, rfl, rfl, by kernel_rfl, by decide⟩
theorem fd56k1 : FieldT Try.prog 56 1 4 1 1 := ⟨_, _, Try.underlying56, rfl, rfl, rfl, by kernel_rfl, by decide⟩
theorem pl4 : Plain Try.prog 4 := ⟨_, Try.underlying4, rfl⟩

theorem fn8 (w : World) : Rets Try.prog 8 #[] w (fun v w' => v = .pointer (some ⟨w.heap.size, 0, none⟩) ∧ Has w' w.heap.size #[.slice none 0 0, .bool true] 56 (0, 0) ∧ Ch [] w w' ∧ w'.heap.size = w.heap.size + 1) := by
  refine Rets.of (n := 3) (vs := []) Try.func8 rfl rfl rfl ?_
  refine TC.seq ?_
  refine TC.region ?_
  refine TL.assign rfl rfl ?_
  refine TL.done ?_
  refine Thn.go ?_
  refine TC.seq ?_
  refine TC.region ?_
  refine TL.buildRec [1] [.const (Value.bool Bool.true)] ([.slice none 0 0, .bool true]) rfl rfl (by kernel_rfl) rfl ?_
  refine TL.box rfl rfl (fun w2 hb2 hc2 hz2 => ?_)
  refine TL.assign rfl rfl ?_
  refine TL.done ?_
  refine Thn.go ?_
  refine TC.ret ?_
  refine Ends.ret [0] rfl rfl ?_
  exact ⟨rfl, hb2, hc2, hz2⟩

theorem fn10 (rv : Value) (l : List Tm.Timer) (t : Tm.Timer) (hl : l.length ≤ 256) (w : World) (hr : Rd w rv 5 l.length (l.flatMap cl)) : Rets Try.prog 10 #[rv, .agg (cl t).toArray] w (fun v w' => ∃ r2, v = .tuple #[r2, .int .i64 (Tm.pushE l t : Int)] ∧ Rd w' r2 5 (Tm.pushL l t).length ((Tm.pushL l t).flatMap cl) ∧ (∀ k, r2.ownBlock = some k → rv.ownBlock = some k ∨ w.heap.size ≤ k) ∧ (∀ k, r2.ownBlock = some k → k < w'.heap.size ∨ rv.ownBlock = some k) ∧ Ch [] w w') := by
  obtain ⟨ad, c, rfl, _⟩ := hr.shape
  refine Rets.of (n := 23) (vs := [_, _]) Try.func10 rfl rfl rfl ?_
  refine TC.seq ?_
  refine TC.region ?_
  refine TL.box rfl rfl (fun w3 hb3 hc3 hz3 => ?_)
  replace hb3 : Has w3 w.heap.size (cl t).toArray 27 (0, 0) := hb3
  refine TL.assign rfl rfl ?_
  refine TL.assign rfl rfl ?_
  refine TL.done ?_
  refine Thn.go ?_
  refine TC.seq ?_
  refine TC.cut0 ([(0, .slice ad l.length c), (3, .pointer (some ⟨w.heap.size, 0, none⟩)), (14, .bool (decide (¬ Tm.may t ∨ Tm.has l t.seq)))]) (fun w2 => Ch [] w3 w2) (fun K1 hK1 => ?_) (fun w2 hH => ?_)
  ·
    refine TC.region ?_
    refine TL.loadAgg (cl t) ag27 rfl rfl (fun j _ => by rw [hb3.cell, Nat.zero_add, List.getElem?_toArray]) rfl ?_
    refine TL.call can25 rfl rfl (fn25 t w3) (fun v7 w7 hr7 => ?_)
    obtain ⟨rfl, hc7⟩ := hr7
    refine TL.em (fun e7 => ?_) (fun e7 => ?_)
    ·
      refine TL.not rfl rfl ?_
      refine TL.move rfl rfl ?_
      refine TL.guardYes (d := 9) rfl rfl rfl ?_
      refine TL.move rfl rfl ?_
      refine TL.guardYes (d := 9) rfl rfl rfl ?_
      refine TL.fieldAddr fd27k1 rfl rfl ?_
      refine TL.guardYes (d := 9) rfl rfl rfl ?_
      refine TL.load pl3 rfl ((show _ = some (Value.int .i64 t.seq) from (hb3.ch0 hc7).cell _)) rfl ?_
      refine TL.guardYes (d := 9) rfl rfl rfl ?_
      refine TL.call can26 rfl rfl (fn26 _ l t.seq w7 ((hr.ch0 hc3).ch0 hc7)) (fun v13 w13 hr13 => ?_)
      obtain ⟨rfl, rfl⟩ := hr13
      refine TL.pickF rfl rfl rfl rfl ?_
      refine TL.done ?_
      exact hK1  _ _ (by repeat (first | exact trivial | refine ⟨rfl, ?_⟩ | refine ⟨congrArg (fun b => some (Value.bool b)) (by first | exact (decide_eq_true (by grind)).symm | exact (decide_eq_false (by grind)).symm | exact decide_eq_decide.2 (by grind) | exact decide_eq_true (by grind) | exact decide_eq_false (by grind) | (exfalso; grind)), ?_⟩)) (by assumption)
    ·
      refine TL.not rfl rfl ?_
      refine TL.move rfl rfl ?_
      refine TL.guardNo (d := 9) rfl rfl rfl rfl rfl ?_
      refine TL.guardNo (d := 9) rfl rfl rfl rfl rfl ?_
      refine TL.guardNo (d := 9) rfl rfl rfl rfl rfl ?_
      refine TL.guardNo (d := 9) rfl rfl rfl rfl rfl ?_
      refine TL.pickT rfl rfl rfl rfl ?_
      refine TL.done ?_
      exact hK1  _ _ (by repeat (first | exact trivial | refine ⟨rfl, ?_⟩ | refine ⟨congrArg (fun b => some (Value.bool b)) (by first | exact (decide_eq_true (by grind)).symm | exact (decide_eq_false (by grind)).symm | exact decide_eq_decide.2 (by grind) | exact decide_eq_true (by grind) | exact decide_eq_false (by grind) | (exfalso; grind)), ?_⟩)) (by assumption)
  ·
    have q2 := hc3.trans0 hH
    refine TC.condP rfl (fun h3 => ?_) (fun h3 => ?_)
    ·
      obtain ⟨e1, e2⟩ := Tm.push_bad (by assumption : ¬ Tm.may t ∨ Tm.has l t.seq)
      refine TC.seq ?_
      refine TC.region ?_
      refine TL.move rfl rfl ?_
      refine TL.assign rfl rfl ?_
      refine TL.assign rfl rfl ?_
      refine TL.done ?_
      refine Thn.go ?_
      refine TC.ret ?_
      refine Thn.ret ?_
      refine Ends.ret [4, 5] rfl rfl ?_
      exact ⟨_, by rw [e1]; rfl, by rw [e2]; exact hr.ch0 q2, fun _ h => .inl h, fun _ h => .inr h, q2⟩
    ·
      refine TC.skip ?_
      refine Thn.go ?_
      refine TC.seq ?_
      refine TC.seq ?_
      refine TC.region ?_
      refine TL.move rfl rfl ?_
      refine TL.lenSlice Try.underlying25 rfl rfl ?_
      refine TL.eql rfl rfl rfl ?_
      refine TL.done ?_
      refine Thn.go ?_
      refine TC.condP rfl (fun h4 => ?_) (fun h4 => ?_)
      ·
        obtain ⟨e1, e2⟩ := Tm.push_many (by assumption : ¬ (¬ Tm.may t ∨ Tm.has l t.seq)) (by omega)
        refine TC.seq ?_
        refine TC.region ?_
        refine TL.move rfl rfl ?_
        refine TL.assign rfl rfl ?_
        refine TL.assign rfl rfl ?_
        refine TL.done ?_
        refine Thn.go ?_
        refine TC.ret ?_
        refine Thn.ret ?_
        refine Ends.ret [4, 5] rfl rfl ?_
        exact ⟨_, by rw [e1]; rfl, by rw [e2]; exact hr.ch0 q2, fun _ h => .inl h, fun _ h => .inr h, q2⟩
      ·
        obtain ⟨e1, e2⟩ := Tm.push_ok (by assumption : ¬ (¬ Tm.may t ∨ Tm.has l t.seq)) (by omega)
        refine TC.skip ?_
        refine Thn.go ?_
        refine TC.seq ?_
        refine TC.region ?_
        refine TL.move rfl rfl ?_
        refine TL.loadAgg (cl t) ag27 rfl rfl (fun j _ => by rw [(hb3.ch0 hH).cell, Nat.zero_add, List.getElem?_toArray]) rfl ?_
        refine TL.call can27 rfl rfl (fn27 _ l t (by omega) w2 (hr.ch0 q2)) (fun v22 w22 hr22 => ?_)
        obtain ⟨hv22, hc22⟩ := hr22
        refine TL.assign rfl rfl ?_
        refine TL.assign rfl rfl ?_
        refine TL.done ?_
        refine Thn.go ?_
        refine TC.ret ?_
        refine Ends.ret [4, 5] rfl rfl ?_
        exact ⟨_, by rw [e1]; rfl, by rw [e2]; exact Rd.ofOwn hv22, fun k h => .inr (Nat.le_trans q2.size (hv22.ge k h)), fun k h => .inl (hv22.lt k h), q2.trans0 hc22⟩

theorem fn9 (H : Nat) (v : Value) (l : List Tm.Timer) (hl : l.length ≤ 256) (w : World) (hH : Has w H #[v, .bool true] 56 (0, 0)) (ho : Own w (H + 1) 27 5 v l.length (l.flatMap cl)) (hp : Hp.Heap Tm.ahead l l.length 0) : Rets Try.prog 9 #[.pointer (some ⟨H, 0, none⟩)] w (fun r w' => r = .tuple #[.agg (cl (Tm.rec l 0)).toArray, .bool (decide (0 < l.length)), .int .i64 0] ∧ ∃ (v' : Value) (L : List Tm.Timer), Has w' H #[v', .bool true] 56 (0, 0) ∧ Own w' (H + 1) 27 5 v' L.length (L.flatMap cl) ∧ (∀ b, v'.ownBlock = some b → v.ownBlock = some b) ∧ Hp.Heap Tm.ahead L L.length 0 ∧ (0 < l.length → l.Perm (Tm.rec l 0 :: L)) ∧ (l.length = 0 → L = []) ∧ Ch (H :: blk v) w w') := by
  obtain ⟨ad, c, rfl⟩ := ho.shape
  have hHl := hH.lt
  refine Rets.of (n := 30) (vs := [_]) Try.func9 rfl rfl rfl ?_
  refine TC.seq ?_
  refine TC.region ?_
  refine TL.alloc ze27 rfl (fun w2 hb2 hc2 hz2 => ?_)
  refine TL.assign rfl rfl ?_
  refine TL.assign rfl rfl ?_
  refine TL.done ?_
  refine Thn.go ?_
  refine TC.seq ?_
  refine TC.block ?_
  refine TC.seq ?_
  refine TC.region ?_
  refine TL.move rfl rfl ?_
  refine TL.eqlPtrNil Try.underlying23 rfl rfl rfl ?_
  refine TL.no (by simp) ?_
  refine TL.move rfl rfl ?_
  refine TL.guardYes (d := 8) rfl rfl rfl ?_
  refine TL.move rfl rfl ?_
  refine TL.guardYes (d := 8) rfl rfl rfl ?_
  refine TL.nilCheck rfl rfl ?_
  refine TL.guardYes (d := 8) rfl rfl rfl ?_
  refine TL.fieldAddr fd56k1 rfl rfl ?_
  refine TL.guardYes (d := 8) rfl rfl rfl ?_
  refine TL.load pl4 rfl ((hH.ch0 hc2).cell 1) rfl ?_
  refine TL.guardYes (d := 8) rfl rfl rfl ?_
  refine TL.not rfl rfl ?_
  refine TL.pickF rfl rfl rfl rfl ?_
  refine TL.assign rfl rfl ?_
  refine TL.done ?_
  refine Thn.go ?_
  refine TC.condF rfl rfl ?_
  refine TC.seq ?_
  refine TC.region ?_
  refine TL.move rfl rfl ?_
  refine TL.nilCheck rfl rfl ?_
  refine TL.fieldAddr fd56k0 rfl rfl ?_
  refine TL.load pl54 rfl ((hH.ch0 hc2).cell 0) rfl ?_
  refine TL.lenSlice Try.underlying54 rfl rfl ?_
  refine TL.eql rfl rfl rfl ?_
  refine TL.assign rfl rfl ?_
  refine TL.done ?_
  refine Thn.go ?_
  refine TC.condP rfl (fun h2 => ?_) (fun h2 => ?_)
  ·
    have el : l = [] := List.eq_nil_of_length_eq_zero (by omega)
    subst el
    refine TC.seq ?_
    refine TC.region ?_
    refine TL.buildRec [] [] (cl (Tm.rec [] 0)) rfl rfl (by kernel_rfl) rfl ?_
    refine TL.store sz27 rfl rfl rfl hb2 (by simp [Value.cells]) (by simpa [Value.cells] using cl_one (Tm.rec [] 0)) (.inl rfl) (fun ws1 hbs1 hcs1 hzs1 => ?_)
    replace hbs1 : Has ws1 w.heap.size (cl (Tm.rec [] 0)).toArray 27 (0, 0) := hbs1.setAll rfl
    have q := hc2.then1 hcs1 (Nat.le_refl _)
    refine TL.assign rfl rfl ?_
    refine TL.assign rfl rfl ?_
    refine TL.done ?_
    refine Thn.go ?_
    refine TC.ret ?_
    refine Blk.ret ?_
    refine Thn.ret ?_
    refine Ends.cell3 (cl (Tm.rec [] 0)) (.inl rfl) rfl ag27 rfl rfl (fun j _ => by rw [hbs1.cell, Nat.zero_add, List.getElem?_toArray]) rfl rfl ?_
    exact ⟨rfl, _, [], hH.ch0 q, ho.ch0 q, fun _ h => h, hp, fun h => absurd h (by simp), fun _ => rfl, q.weaken (by simp)⟩
  ·
    have hpos : 0 < l.length := by omega
    refine TC.skip ?_
    refine Blk.go ?_
    refine Thn.go ?_
    refine TC.seq ?_
    refine TC.region ?_
    refine TL.move rfl rfl ?_
    refine TL.nilCheck rfl rfl ?_
    refine TL.fieldAddr fd56k0 rfl rfl ?_
    refine TL.mkIface Try.underlying58 rfl rfl rfl ?_
    refine TL.call can24 rfl rfl (fn24 H _ l (by omega) hpos w2 (hH.ch0 hc2) (ho.ch0 hc2) hp) (fun v28 w28 hr28 => ?_)
    obtain ⟨rfl, v', L, hH28, ho28, hb28, hpm, hh, hc28⟩ := hr28
    have hn2 : w.heap.size ∉ H :: blk (.slice ad l.length c) := by intro h; rcases List.mem_cons.1 h with h | h; omega; exact ho.notlast (Nat.le_refl _) h
    refine TL.assert Try.underlying27 rfl rfl rfl ?_
    refine TL.store sz27 rfl rfl rfl (hb2.ch hc28 hn2) (by simp [Value.cells]) (by simpa [Value.cells] using cl_one (Tm.rec l 0)) (.inl rfl) (fun ws2 hbs2 hcs2 hzs2 => ?_)
    replace hbs2 : Has ws2 w.heap.size (cl (Tm.rec l 0)).toArray 27 (0, 0) := hbs2.setAll rfl
    refine TL.assign rfl rfl ?_
    refine TL.assign rfl rfl ?_
    refine TL.done ?_
    refine Thn.go ?_
    refine TC.ret ?_
    refine Ends.cell3 (cl (Tm.rec l 0)) (.inl rfl) rfl ag27 rfl rfl (fun j _ => by rw [hbs2.cell, Nat.zero_add, List.getElem?_toArray]) rfl rfl ?_
    exact ⟨by rw [show decide (0 < l.length) = true from decide_eq_true hpos], v', L, hH28.ch hcs2 (by simp; omega), ho28.ch hcs2 (fun k hk h => by rw [hb28] at hk; have := ho.lt k hk; simp at h; omega), fun b h => by rw [← hb28]; exact h, hh, fun _ => hpm, fun h => by omega, (hc2.trans hc28 (by simp) (fun x h _ => h)).trans hcs2 (fun x h _ => h) (fun x h hx => by simp at h; omega)⟩

theorem fn11 (H : Nat) (v : Value) (l : List Tm.Timer) (t : Tm.Timer) (hl : l.length ≤ 256) (w : World) (hH : Has w H #[v, .bool true] 56 (0, 0)) (ho : Own w (H + 1) 27 5 v l.length (l.flatMap cl)) (hp : Hp.Heap Tm.ahead l l.length 0) : Rets Try.prog 11 #[.pointer (some ⟨H, 0, none⟩), .agg (cl t).toArray] w (fun r w' => r = .int .i64 (Tm.pushE l t : Int) ∧ ∃ (v' : Value) (L : List Tm.Timer), Has w' H #[v', .bool true] 56 (0, 0) ∧ Own w' (H + 1) 27 5 v' L.length (L.flatMap cl) ∧ (∀ b, v'.ownBlock = some b → v.ownBlock = some b ∨ w.heap.size ≤ b) ∧ Hp.Heap Tm.ahead L L.length 0 ∧ (Tm.pushE l t = 0 → L.Perm (t :: l)) ∧ (Tm.pushE l t ≠ 0 → L = l) ∧ Ch (H :: blk v) w w') := by
  obtain ⟨ad, c, rfl⟩ := ho.shape
  have hHl := hH.lt
  refine Rets.of (n := 40) (vs := [_, _]) Try.func11 rfl rfl rfl ?_
  refine TC.seq ?_
  refine TC.region ?_
  refine TL.box rfl rfl (fun w3 hb3 hc3 hz3 => ?_)
  replace hb3 : Has w3 w.heap.size (cl t).toArray 27 (0, 0) := hb3
  refine TL.assign rfl rfl ?_
  refine TL.done ?_
  refine Thn.go ?_
  refine TC.seq ?_
  refine TC.block ?_
  refine TC.seq ?_
  refine TC.region ?_
  refine TL.move rfl rfl ?_
  refine TL.eqlPtrNil Try.underlying23 rfl rfl rfl ?_
  refine TL.no (by simp) ?_
  refine TL.move rfl rfl ?_
  refine TL.guardYes (d := 8) rfl rfl rfl ?_
  refine TL.move rfl rfl ?_
  refine TL.guardYes (d := 8) rfl rfl rfl ?_
  refine TL.nilCheck rfl rfl ?_
  refine TL.guardYes (d := 8) rfl rfl rfl ?_
  refine TL.fieldAddr fd56k1 rfl rfl ?_
  refine TL.guardYes (d := 8) rfl rfl rfl ?_
  refine TL.load pl4 rfl ((hH.ch0 hc3).cell 1) rfl ?_
  refine TL.guardYes (d := 8) rfl rfl rfl ?_
  refine TL.not rfl rfl ?_
  refine TL.pickF rfl rfl rfl rfl ?_
  refine TL.assign rfl rfl ?_
  refine TL.done ?_
  refine Thn.go ?_
  refine TC.condF rfl rfl ?_
  refine TC.cut0 ([(0, .pointer (some ⟨H, 0, none⟩)), (3, .pointer (some ⟨w.heap.size, 0, none⟩)), (15, .bool (decide (¬ Tm.may t ∨ Tm.has l t.seq)))]) (fun w2 => Ch [] w3 w2) (fun K2 hK2 => ?_) (fun w2 hH2 => ?_)
  ·
    refine TC.seq ?_
    refine TC.region ?_
    refine TL.loadAgg (cl t) ag27 rfl rfl (fun j _ => by rw [hb3.cell, Nat.zero_add, List.getElem?_toArray]) rfl ?_
    refine TL.call can28 rfl rfl (fn28 t w3) (fun v17 w17 hr17 => ?_)
    obtain ⟨rfl, hc17⟩ := hr17
    refine TL.notP rfl rfl ?_
    refine TL.assign rfl rfl ?_
    refine TL.done ?_
    refine Thn.go ?_
    refine TC.condP rfl (fun h3 => ?_) (fun h3 => ?_)
    ·
      refine TC.skip ?_
      exact hK2  _ _ (by repeat (first | exact trivial | refine ⟨rfl, ?_⟩ | refine ⟨congrArg (fun b => some (Value.bool b)) (by first | exact (decide_eq_true (by grind)).symm | exact (decide_eq_false (by grind)).symm | exact decide_eq_decide.2 (by grind) | exact decide_eq_true (by grind) | exact decide_eq_false (by grind) | (exfalso; grind)), ?_⟩)) (hc17)
    ·
      refine TC.regionH (fun w4 => Ch [] w17 w4) mixed0 ?_
      have hS : (fun w4 => Ch [] w17 w4) _ := Ch.drew [] _
      refine TH.take (i := 0) rfl rfl rfl rfl rfl (by kernel_rfl) (by kernel_rfl) (by kernel_rfl) hS (fun w2 hw2 => TL.move rfl rfl (TL.done ⟨rfl, rfl⟩)) ?_
      refine TH.takeNil (i := 1) rfl rfl rfl (by kernel_rfl) (by kernel_rfl) (by kernel_rfl) hS ?_
      refine TH.take (i := 2) rfl rfl rfl rfl rfl (by kernel_rfl) (by kernel_rfl) (by kernel_rfl) hS (fun w2 hw2 => TL.fieldAddr fd56k0 rfl rfl (TL.done ⟨rfl, rfl⟩)) ?_
      refine TH.take (i := 3) rfl rfl rfl rfl rfl (by kernel_rfl) (by kernel_rfl) (by kernel_rfl) hS (fun w2 hw2 => TL.load pl54 rfl (((hH.ch0 hc3).ch0 (hc17.trans0 hw2)).cell 0) rfl (TL.done ⟨rfl, rfl⟩)) ?_
      refine TH.take (i := 4) rfl rfl rfl rfl rfl (by kernel_rfl) (by kernel_rfl) (by kernel_rfl) hS (fun w2 hw2 => TL.fieldAddr fd27k1 rfl rfl (TL.done ⟨rfl, rfl⟩)) ?_
      refine TH.take (i := 5) rfl rfl rfl rfl rfl (by kernel_rfl) (by kernel_rfl) (by kernel_rfl) hS (fun w2 hw2 => TL.load pl3 rfl ((show _ = some (Value.int .i64 t.seq) from (hb3.ch0 (hc17.trans0 hw2)).cell _)) rfl (TL.done ⟨rfl, rfl⟩)) ?_
      refine TH.one (i := 6) (by kernel_rfl) rfl rfl ?_
      refine TL.call can29 rfl rfl (fn29 _ l t.seq _ (((Rd.ofOwn ho).ch0 hc3).ch0 (hc17.trans0 hS))) (fun v25 w25 hr25 => ?_)
      obtain ⟨rfl, hc25⟩ := hr25
      have hS : (fun w4 => Ch [] w17 w4) _ := Ch.trans0 hS hc25
      refine TL.done ⟨hS, ?_⟩
      refine TH.take (i := 7) rfl rfl rfl rfl rfl (by kernel_rfl) (by kernel_rfl) (by kernel_rfl) hS (fun w2 hw2 => TL.assign rfl rfl (TL.done ⟨rfl, rfl⟩)) ?_
      refine TH.done (by kernel_rfl) ?_
      exact hK2  _ _ (by repeat (first | exact trivial | refine ⟨rfl, ?_⟩ | refine ⟨congrArg (fun b => some (Value.bool b)) (by first | exact (decide_eq_true (by grind)).symm | exact (decide_eq_false (by grind)).symm | exact decide_eq_decide.2 (by grind) | exact decide_eq_true (by grind) | exact decide_eq_false (by grind) | (exfalso; grind)), ?_⟩)) (hc17.trans0 hS)
  ·
    have q2 := hc3.trans0 hH2
    have hHq := hH.ch0 q2
    have hoq := ho.ch0 q2
    have hbq := hb3.ch0 hH2
    refine TC.condP rfl (fun h4 => ?_) (fun h4 => ?_)
    ·
      obtain ⟨e1, e2⟩ := Tm.push_bad (by assumption : ¬ Tm.may t ∨ Tm.has l t.seq)
      refine TC.seq ?_
      refine TC.region ?_
      refine TL.assign rfl rfl ?_
      refine TL.done ?_
      refine Thn.go ?_
      refine TC.ret ?_
      refine Blk.ret ?_
      refine Thn.ret ?_
      refine Ends.ret [4] rfl rfl ?_
      exact ⟨by rw [e1]; rfl, _, l, hHq, hoq, fun _ h => .inl h, hp, fun h => by omega, fun _ => rfl, q2.weaken (by simp)⟩
    ·
      refine TC.seq ?_
      refine TC.region ?_
      refine TL.move rfl rfl ?_
      refine TL.nilCheck rfl rfl ?_
      refine TL.fieldAddr fd56k0 rfl rfl ?_
      refine TL.load pl54 rfl (hHq.cell 0) rfl ?_
      refine TL.lenSlice Try.underlying54 rfl rfl ?_
      refine TL.eql rfl rfl rfl ?_
      refine TL.assign rfl rfl ?_
      refine TL.done ?_
      refine Thn.go ?_
      refine TC.condP rfl (fun h5 => ?_) (fun h5 => ?_)
      ·
        obtain ⟨e1, e2⟩ := Tm.push_many (by assumption : ¬ (¬ Tm.may t ∨ Tm.has l t.seq)) (by omega)
        refine TC.seq ?_
        refine TC.region ?_
        refine TL.assign rfl rfl ?_
        refine TL.done ?_
        refine Thn.go ?_
        refine TC.ret ?_
        refine Blk.ret ?_
        refine Thn.ret ?_
        refine Ends.ret [4] rfl rfl ?_
        exact ⟨by rw [e1]; rfl, _, l, hHq, hoq, fun _ h => .inl h, hp, fun h => by omega, fun _ => rfl, q2.weaken (by simp)⟩
      ·
        obtain ⟨e1, e2⟩ := Tm.push_ok (by assumption : ¬ (¬ Tm.may t ∨ Tm.has l t.seq)) (by omega)
        have hn2 : w.heap.size ∉ H :: blk (.slice ad l.length c) := by intro h; rcases List.mem_cons.1 h with h | h; omega; exact ho.notlast (Nat.le_refl _) h
        refine TC.skip ?_
        refine Blk.go ?_
        refine Thn.go ?_
        refine TC.seq ?_
        refine TC.regionH (fun w4 => Ch (H :: blk (.slice ad l.length c)) w2 w4) mixed0 ?_
        have hS : (fun w4 => Ch (H :: blk (.slice ad l.length c)) w2 w4) _ := Ch.drew _ _
        refine TH.take (i := 0) rfl rfl rfl rfl rfl (by kernel_rfl) (by kernel_rfl) (by kernel_rfl) hS (fun w2 hw2 => TL.move rfl rfl (TL.done ⟨rfl, rfl⟩)) ?_
        refine TH.takeNil (i := 1) rfl rfl rfl (by kernel_rfl) (by kernel_rfl) (by kernel_rfl) hS ?_
        refine TH.take (i := 2) rfl rfl rfl rfl rfl (by kernel_rfl) (by kernel_rfl) (by kernel_rfl) hS (fun w2 hw2 => TL.fieldAddr fd56k0 rfl rfl (TL.done ⟨rfl, rfl⟩)) ?_
        refine TH.take (i := 3) rfl rfl rfl rfl rfl (by kernel_rfl) (by kernel_rfl) (by kernel_rfl) hS (fun w2 hw2 => TL.mkIface Try.underlying58 rfl rfl rfl (TL.done ⟨rfl, rfl⟩)) ?_
        refine TH.take (i := 4) rfl rfl rfl rfl rfl (by kernel_rfl) (by kernel_rfl) (by kernel_rfl) hS (fun w2 hw2 => TL.loadAgg (cl t) ag27 rfl rfl (fun j _ => by rw [(hbq.ch hw2 hn2).cell, Nat.zero_add, List.getElem?_toArray]) rfl (TL.done ⟨rfl, rfl⟩)) ?_
        refine TH.take (i := 5) rfl rfl rfl rfl rfl (by kernel_rfl) (by kernel_rfl) (by kernel_rfl) hS (fun w2 hw2 => TL.mkIface Try.underlying27 rfl rfl rfl (TL.done ⟨rfl, rfl⟩)) ?_
        refine TH.one (i := 6) (by kernel_rfl) rfl rfl ?_
        refine TL.call can30 rfl rfl (fn30 H _ l t (by omega) _ (hHq.ch0 (Ch.drew [] _)) (hoq.ch0 (Ch.drew [] _)) hp) (fun v39 w39 hr39 => ?_)
        obtain ⟨v', L, hH39, ho39, hb39, hpm, hh, hc39⟩ := hr39
        have hS : (fun w4 => Ch (H :: blk (.slice ad l.length c)) w2 w4) _ := Ch.trans hS hc39 (fun x h _ => h) (fun x h _ => h)
        refine TL.done ⟨hS, ?_⟩
        refine TH.done (by kernel_rfl) ?_
        refine Thn.go ?_
        refine TC.seq ?_
        refine TC.region ?_
        refine TL.assign rfl rfl ?_
        refine TL.done ?_
        refine Thn.go ?_
        refine TC.ret ?_
        refine Ends.ret [4] rfl rfl ?_
        exact ⟨by rw [e1]; rfl, v', L, hH39, ho39, fun b h => by rcases hb39 b h with h2 | h2; exact .inl h2; exact .inr (Nat.le_trans q2.size h2), hh, fun _ => hpm, fun h => by omega, q2.trans hS (by simp) (fun x h _ => h)⟩

