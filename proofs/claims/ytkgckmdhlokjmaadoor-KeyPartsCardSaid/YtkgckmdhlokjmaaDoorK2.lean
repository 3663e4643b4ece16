/-
  Walks through the given program: each theorem fnN says what the call of function N of the translation hands back, for all arguments that its premises describe, and that nothing that was there has turned.
-/
import Derived.Test.YtkgckmdhlokjmaaDoorK1
namespace Go.Proofs.YtkgckmdhlokjmaaDoor
open Go.Lane
open Go.Key
theorem can15 : Callable Tryd.prog 15 := ⟨Tryd.f15, Tryd.func15, by kernel_rfl, rfl⟩
theorem can11 : Callable Tryd.prog 11 := ⟨Tryd.f11, Tryd.func11, by kernel_rfl, rfl⟩
theorem flat_ints (l : List Int) : flat (l.map (Value.int .i64)) = l.map (Value.int .i64) := by
  induction l with
  | nil => rfl
  | cons x r ih => simp only [List.map_cons, flat, List.flatMap_cons] at ih ⊢; rw [ih]; rfl

theorem fn30 (a : Value) (vs : List Int) (w : World) (ha : Rd w a 1 vs.length (vs.map (.int .i64))) : Rets Tryd.prog 30 #[a] w (fun v w' => v = .int .i64 (orI vs) ∧ w' = w) := by
  obtain ⟨ad, c, rfl, _⟩ := ha.shape
  have hmx : vs.length ≤ 9223372036854775807 := ha.nlt
  refine Rets.of (n := 18) (vs := [_]) Tryd.func30 rfl rfl rfl ?_
  refine TC.seq ?_
  refine TC.region ?_
  refine TL.assign rfl rfl ?_
  refine TL.done ?_
  refine Thn.go ?_
  refine TC.seq ?_
  refine TC.region ?_
  refine TL.assign rfl rfl ?_
  refine TL.done ?_
  refine Thn.go ?_
  refine TC.seq ?_
  refine TC.seq ?_
  refine TC.region ?_
  refine TL.move rfl rfl ?_
  refine TL.lenSlice Tryd.underlying78 rfl rfl ?_
  refine TL.move rfl rfl ?_
  refine TL.done ?_
  refine Thn.go ?_
  refine TC.block ?_
  refine TC.loop1 (fun (k : Nat) => [(3, .int .i64 0), (6, .slice ad vs.length c), (7, .int .i64 (vs.length : Int)), (8, .int .i64 (k : Int))]) (fun k w' => k ≤ vs.length ∧ orI (vs.drop k) = orI vs ∧ w' = w) (fun k => vs.length - k) 0 (by repeat (first | exact trivial | refine ⟨rfl, ?_⟩)) (⟨by omega, rfl, rfl⟩) (fun k w' hH => ?_)
  obtain ⟨hk, hor, rfl⟩ := hH
  refine TC.seq ?_
  refine TC.region ?_
  refine TL.lss rfl rfl rfl ?_
  refine TL.done ?_
  refine Thn.go ?_
  refine TC.seq ?_
  refine TC.condP rfl (fun h1 => ?_) (fun h1 => ?_)
  ·
    have hkl : k < vs.length := by omega
    obtain ⟨b, off, rfl, hcell⟩ := ha.at0 hkl
    rw [List.getElem?_map, List.getElem?_eq_getElem hkl] at hcell
    rw [drop_at hkl, orI] at hor
    refine TC.skip ?_
    refine Thn.go ?_
    refine TC.seq ?_
    refine TC.block ?_
    refine TC.seq ?_
    refine TC.region ?_
    refine TL.indexAddr (k) sl78 rfl rfl (by first | rfl | omega) (by omega) rfl ?_
    refine TL.load pl3 rfl (by rw [Nat.mul_one]; exact hcell) rfl ?_
    refine TL.assign rfl rfl ?_
    refine TL.done ?_
    refine Thn.go ?_
    refine TC.seq ?_
    refine TC.region ?_
    refine TL.move rfl rfl ?_
    refine TL.move rfl rfl ?_
    refine TL.neq rfl rfl rfl ?_
    refine TL.done ?_
    refine Thn.go ?_
    refine TC.condP rfl (fun h2 => ?_) (fun h2 => ?_)
    ·
      rw [if_pos h2] at hor
      refine TC.seq ?_
      refine TC.region ?_
      refine TL.move rfl rfl ?_
      refine TL.assign rfl rfl ?_
      refine TL.done ?_
      refine Thn.go ?_
      refine TC.ret ?_
      refine Blk.ret ?_
      refine Thn.ret ?_
      refine Lp.ret ?_
      refine Blk.ret ?_
      refine Thn.ret ?_
      refine Ends.ret [2] rfl rfl ?_
      exact ⟨by rw [← hor]; rfl, rfl⟩
    ·
      rw [if_neg h2] at hor
      refine TC.skip ?_
      refine Blk.go ?_
      refine Thn.go ?_
      refine TC.region ?_
      refine TL.add_i64 rfl rfl (by omega) (by omega) rfl ?_
      refine TL.move rfl rfl ?_
      refine TL.done ?_
      refine Lp.go (k + 1) (by repeat (first | exact trivial | refine ⟨rfl, ?_⟩)) ?_ (by first | omega | (dsimp only; omega))
      exact ⟨by omega, hor, rfl⟩
  ·
    rw [List.drop_eq_nil_of_le (by omega)] at hor
    refine TC.exit ?_
    refine Thn.exit ?_
    refine Lp.exit ?_
    refine Blk.hit ?_
    refine Thn.go ?_
    refine TC.seq ?_
    refine TC.region ?_
    refine TL.move rfl rfl ?_
    refine TL.assign rfl rfl ?_
    refine TL.done ?_
    refine Thn.go ?_
    refine TC.ret ?_
    refine Ends.ret [2] rfl rfl ?_
    exact ⟨by rw [← hor]; rfl, rfl⟩

theorem fn29 (x y : Part) (w : World) : Rets Tryd.prog 29 #[.agg (cl x).toArray, .agg (cl y).toArray] w (fun v w' => v = .int .i64 (cmpP x y) ∧ Ch [] w w') := by
  refine Rets.of (n := 22) (vs := [_, _]) Tryd.func29 rfl rfl rfl ?_
  refine TC.seq ?_
  refine TC.region ?_
  refine TL.box rfl rfl (fun w2 hb2 hc2 hz2 => ?_)
  refine TL.box rfl rfl (fun w3 hb3 hc3 hz3 => ?_)
  have hx : Has w3 w.heap.size (cl x).toArray 29 (0, 0) := hb2.ch0 hc3
  have hy : Has w3 w2.heap.size (cl y).toArray 29 (0, 0) := hb3
  refine TL.assign rfl rfl ?_
  refine TL.done ?_
  refine Thn.go ?_
  refine TC.seq ?_
  refine TC.regionH (fun w' => Ch [] w3 w') mixed0 ?_
  have hS : (fun w' => Ch [] w3 w') _ := Ch.drew _ _
  refine TH.take (i := 0) rfl rfl rfl rfl rfl (by kernel_rfl) (by kernel_rfl) (by kernel_rfl) hS (fun w2 hw2 => TL.fieldAddr fd29k0 rfl rfl (TL.done ⟨rfl, rfl⟩)) ?_
  refine TH.take (i := 1) rfl rfl rfl rfl rfl (by kernel_rfl) (by kernel_rfl) (by kernel_rfl) hS (fun w2 hw2 => TL.load pl5 rfl ((hx.ch0 hw2).cell _) rfl (TL.done ⟨rfl, rfl⟩)) ?_
  refine TH.take (i := 2) rfl rfl rfl rfl rfl (by kernel_rfl) (by kernel_rfl) (by kernel_rfl) hS (fun w2 hw2 => TL.fieldAddr fd29k0 rfl rfl (TL.done ⟨rfl, rfl⟩)) ?_
  refine TH.take (i := 3) rfl rfl rfl rfl rfl (by kernel_rfl) (by kernel_rfl) (by kernel_rfl) hS (fun w2 hw2 => TL.load pl5 rfl ((hy.ch0 hw2).cell _) rfl (TL.done ⟨rfl, rfl⟩)) ?_
  refine TH.take (i := 5) rfl rfl rfl rfl rfl (by kernel_rfl) (by kernel_rfl) (by kernel_rfl) hS (fun w2 hw2 => TL.fieldAddr fd29k1 rfl rfl (TL.done ⟨rfl, rfl⟩)) ?_
  refine TH.take (i := 6) rfl rfl rfl rfl rfl (by kernel_rfl) (by kernel_rfl) (by kernel_rfl) hS (fun w2 hw2 => TL.load pl2 rfl ((hx.ch0 hw2).cell _) rfl (TL.done ⟨rfl, rfl⟩)) ?_
  refine TH.take (i := 7) rfl rfl rfl rfl rfl (by kernel_rfl) (by kernel_rfl) (by kernel_rfl) hS (fun w2 hw2 => TL.fieldAddr fd29k1 rfl rfl (TL.done ⟨rfl, rfl⟩)) ?_
  refine TH.take (i := 8) rfl rfl rfl rfl rfl (by kernel_rfl) (by kernel_rfl) (by kernel_rfl) hS (fun w2 hw2 => TL.load pl2 rfl ((hy.ch0 hw2).cell _) rfl (TL.done ⟨rfl, rfl⟩)) ?_
  refine TH.take (i := 10) rfl rfl rfl rfl rfl (by kernel_rfl) (by kernel_rfl) (by kernel_rfl) hS (fun w2 hw2 => TL.fieldAddr fd29k2 rfl rfl (TL.done ⟨rfl, rfl⟩)) ?_
  refine TH.take (i := 11) rfl rfl rfl rfl rfl (by kernel_rfl) (by kernel_rfl) (by kernel_rfl) hS (fun w2 hw2 => TL.load pl9 rfl ((hx.ch0 hw2).cell _) rfl (TL.done ⟨rfl, rfl⟩)) ?_
  refine TH.take (i := 12) rfl rfl rfl rfl rfl (by kernel_rfl) (by kernel_rfl) (by kernel_rfl) hS (fun w2 hw2 => TL.fieldAddr fd29k2 rfl rfl (TL.done ⟨rfl, rfl⟩)) ?_
  refine TH.take (i := 13) rfl rfl rfl rfl rfl (by kernel_rfl) (by kernel_rfl) (by kernel_rfl) hS (fun w2 hw2 => TL.load pl9 rfl ((hy.ch0 hw2).cell _) rfl (TL.done ⟨rfl, rfl⟩)) ?_
  refine TH.one (i := 4) (by kernel_rfl) rfl rfl ?_
  refine TL.call can31 rfl rfl (fn31 x.kind y.kind _) (fun v9 w9 hr9 => ?_)
  obtain ⟨rfl, rfl⟩ := hr9
  have hS : (fun w' => Ch [] w3 w') _ := hS
  refine TL.done ⟨hS, ?_⟩
  refine TH.one (i := 9) (by kernel_rfl) rfl rfl ?_
  refine TL.call can32 rfl rfl (fn32 x.int y.int _) (fun v14 w14 hr14 => ?_)
  obtain ⟨rfl, rfl⟩ := hr14
  have hS : (fun w' => Ch [] w3 w') _ := hS
  refine TL.done ⟨hS, ?_⟩
  refine TH.one (i := 14) (by kernel_rfl) rfl rfl ?_
  refine TL.call can33 rfl rfl (fn33 x.text y.text _) (fun v19 w19 hr19 => ?_)
  obtain ⟨rfl, rfl⟩ := hr19
  have hS : (fun w' => Ch [] w3 w') _ := hS
  refine TL.done ⟨hS, ?_⟩
  refine TH.one (i := 15) (by kernel_rfl) rfl rfl ?_
  refine TL.buildSlice [.tmp 9, .tmp 14, .tmp 19] sl78 rfl rfl rfl (by decide) (by first | simp [Value.cells]; done | simp [Value.cells, cl_len]; done) rfl (fun w20 hb20 hc20 hz20 => ?_)
  have hS : (fun w' => Ch [] w3 w') _ := hS.trans0 hc20
  refine TL.done ⟨hS, ?_⟩
  refine TH.one (i := 16) (by kernel_rfl) rfl rfl ?_
  refine TL.call can30 rfl rfl (fn30 _ [cmpI x.kind.toNat y.kind.toNat, cmpI x.int y.int, cmpS x.text y.text] w20 (by have h := Rd.ofFlat (sz := 1) (vs := [cmpI x.kind.toNat y.kind.toNat, cmpI x.int y.int, cmpS x.text y.text].map (Value.int .i64)) (m := 3) hb20 (by simp [Value.cells]) rfl (by decide); rw [flat_ints] at h; exact h)) (fun v21 w21 hr21 => ?_)
  obtain ⟨rfl, rfl⟩ := hr21
  have hS : (fun w' => Ch [] w3 w') _ := hS
  refine TL.done ⟨hS, ?_⟩
  refine TH.take (i := 17) rfl rfl rfl rfl rfl (by kernel_rfl) (by kernel_rfl) (by kernel_rfl) hS (fun w2 hw2 => TL.assign rfl rfl (TL.done ⟨rfl, rfl⟩)) ?_
  refine TH.done (by kernel_rfl) ?_
  refine Thn.go ?_
  refine TC.ret ?_
  refine Ends.ret [4] rfl rfl ?_
  exact ⟨rfl, (hc2.trans0 hc3).trans0 hS⟩

theorem fn28 (a b : Value) (l m : List Part) (w : World) (ha : Rd w a 3 l.length (l.flatMap cl)) (hb : Rd w b 3 m.length (m.flatMap cl)) : Rets Tryd.prog 28 #[a, b, .func (.func 29) #[] #[]] w (fun v w' => v = .int .i64 (cmpL l m) ∧ Ch [] w w') := by
  obtain ⟨ad, c, rfl, _⟩ := ha.shape
  obtain ⟨bd, d, rfl, _⟩ := hb.shape
  have hmx : l.length ≤ 9223372036854775807 := ha.nlt
  have hmy : m.length ≤ 9223372036854775807 := hb.nlt
  refine Rets.of (n := 39) (vs := [_, _, _]) Tryd.func28 rfl rfl rfl ?_
  refine TC.seq ?_
  refine TC.region ?_
  refine TL.assign rfl rfl ?_
  refine TL.done ?_
  refine Thn.go ?_
  refine TC.seq ?_
  refine TC.seq ?_
  refine TC.region ?_
  refine TL.move rfl rfl ?_
  refine TL.lenSlice Tryd.underlying22 rfl rfl ?_
  refine TL.move rfl rfl ?_
  refine TL.done ?_
  refine Thn.go ?_
  refine TC.block ?_
  refine TC.loop1 (fun (k : Nat) => [(0, .slice ad l.length c), (1, .slice bd m.length d), (2, .func (.func 29) #[] #[]), (11, .slice ad l.length c), (12, .int .i64 (l.length : Int)), (13, .int .i64 (k : Int))]) (fun k w' => k ≤ l.length ∧ k ≤ m.length ∧ cmpL (l.drop k) (m.drop k) = cmpL l m ∧ Ch [] w w') (fun k => l.length - k) 0 (by repeat (first | exact trivial | refine ⟨rfl, ?_⟩)) (⟨by omega, by omega, rfl, Ch.refl _ _⟩) (fun k w' hH => ?_)
  obtain ⟨hk, hkm, hcm, hch⟩ := hH
  refine TC.seq ?_
  refine TC.region ?_
  refine TL.lss rfl rfl rfl ?_
  refine TL.done ?_
  refine Thn.go ?_
  refine TC.seq ?_
  refine TC.condP rfl (fun h1 => ?_) (fun h1 => ?_)
  ·
    have hkl : k < l.length := by omega
    obtain ⟨b1, o1, rfl, hce1⟩ := Rd.elt cl_len (by decide) (ha.ch0 hch) hkl
    rw [drop_at hkl] at hcm
    refine TC.skip ?_
    refine Thn.go ?_
    refine TC.seq ?_
    refine TC.block ?_
    refine TC.seq ?_
    refine TC.region ?_
    refine TL.move rfl rfl ?_
    refine TL.indexAddr (k) sl22 rfl rfl (by first | rfl | omega) (by omega) rfl ?_
    refine TL.loadAgg (cl l[k]) ag29 rfl rfl (fun j hj => hce1 j hj) rfl ?_
    refine TL.alloc ze29 rfl (fun w8 hb8 hc8 hz8 => ?_)
    refine TL.assign rfl rfl ?_
    refine TL.store sz29 rfl rfl rfl (hb8) (by first | omega | simp [Value.cells]) (by simp [Value.cells, cl, Value.oneCell']) (.inl rfl) (fun ws1 hbs1 hcs1 hzs1 => ?_)
    replace hbs1 : Has ws1 w'.heap.size (cl l[k]).toArray 29 (0, 0) := hbs1.setAll rfl
    have hch1 : Ch [] w' ws1 := hc8.then1 hcs1 (Nat.le_refl _)
    refine TL.done ?_
    refine Thn.go ?_
    refine TC.seq ?_
    refine TC.seq ?_
    refine TC.region ?_
    refine TL.move rfl rfl ?_
    refine TL.move rfl rfl ?_
    refine TL.lenSlice Tryd.underlying22 rfl rfl ?_
    refine TL.geq rfl rfl rfl ?_
    refine TL.done ?_
    refine Thn.go ?_
    refine TC.condP rfl (fun h2 => ?_) (fun h2 => ?_)
    ·
      rw [List.drop_eq_nil_of_le (show m.length ≤ k by omega)] at hcm
      refine TC.seq ?_
      refine TC.region ?_
      refine TL.assign rfl rfl ?_
      refine TL.done ?_
      refine Thn.go ?_
      refine TC.ret ?_
      refine Thn.ret ?_
      refine Blk.ret ?_
      refine Thn.ret ?_
      refine Lp.ret ?_
      refine Blk.ret ?_
      refine Thn.ret ?_
      refine Ends.ret [6] rfl rfl ?_
      exact ⟨by rw [← hcm]; rfl, hch.trans0 hch1⟩
    ·
      have hkl2 : k < m.length := by omega
      obtain ⟨b2, o2, rfl, hce2⟩ := Rd.elt cl_len (by decide) (hb.ch0 (hch.trans0 hch1)) hkl2
      rw [drop_at hkl2, cmpL] at hcm
      refine TC.skip ?_
      refine Thn.go ?_
      refine TC.seq ?_
      refine TC.region ?_
      refine TL.move rfl rfl ?_
      refine TL.move rfl rfl ?_
      refine TL.indexAddr (k) sl22 rfl rfl (by first | rfl | omega) (by omega) rfl ?_
      refine TL.loadAgg (cl m[k]) ag29 rfl rfl (fun j hj => hce2 j hj) rfl ?_
      refine TL.alloc ze29 rfl (fun w9 hb9 hc9 hz9 => ?_)
      refine TL.store sz29 rfl rfl rfl (hb9) (by first | omega | simp [Value.cells]) (by simp [Value.cells, cl, Value.oneCell']) (.inl rfl) (fun ws2 hbs2 hcs2 hzs2 => ?_)
      replace hbs2 : Has ws2 ws1.heap.size (cl m[k]).toArray 29 (0, 0) := hbs2.setAll rfl
      have hch2 : Ch [] ws1 ws2 := hc9.then1 hcs2 (Nat.le_refl _)
      have hbs1' := hbs1.ch0 hch2
      refine TL.done ?_
      refine Thn.go ?_
      refine TC.seq ?_
      refine TC.region ?_
      refine TL.move rfl rfl ?_
      refine TL.loadAgg (cl l[k]) ag29 rfl rfl (fun j _ => by rw [hbs1'.cell, Nat.zero_add, List.getElem?_toArray]) rfl ?_
      refine TL.loadAgg (cl m[k]) ag29 rfl rfl (fun j _ => by rw [hbs2.cell, Nat.zero_add, List.getElem?_toArray]) rfl ?_
      refine TL.callVal can29 rfl rfl rfl (by simpa using fn29 l[k] m[k] ws2) (fun v29 w29 hr29 => ?_)
      obtain ⟨rfl, hc29⟩ := hr29
      refine TL.assign rfl rfl ?_
      refine TL.done ?_
      refine Thn.go ?_
      refine TC.seq ?_
      refine TC.region ?_
      refine TL.move rfl rfl ?_
      refine TL.neq rfl rfl rfl ?_
      refine TL.done ?_
      refine Thn.go ?_
      refine TC.condP rfl (fun h3 => ?_) (fun h3 => ?_)
      ·
        rw [if_pos h3] at hcm
        refine TC.seq ?_
        refine TC.region ?_
        refine TL.move rfl rfl ?_
        refine TL.assign rfl rfl ?_
        refine TL.done ?_
        refine Thn.go ?_
        refine TC.ret ?_
        refine Blk.ret ?_
        refine Thn.ret ?_
        refine Lp.ret ?_
        refine Blk.ret ?_
        refine Thn.ret ?_
        refine Ends.ret [6] rfl rfl ?_
        exact ⟨by rw [← hcm]; rfl, ((hch.trans0 hch1).trans0 hch2).trans0 hc29⟩
      ·
        rw [if_neg h3] at hcm
        refine TC.skip ?_
        refine Blk.go ?_
        refine Thn.go ?_
        refine TC.region ?_
        refine TL.add_i64 rfl rfl (by omega) (by omega) rfl ?_
        refine TL.move rfl rfl ?_
        refine TL.done ?_
        refine Lp.go (k + 1) (by repeat (first | exact trivial | refine ⟨rfl, ?_⟩)) ?_ (by first | omega | (dsimp only; omega))
        exact ⟨by omega, by omega, hcm, ((hch.trans0 hch1).trans0 hch2).trans0 hc29⟩
  ·
    rw [List.drop_eq_nil_of_le (show l.length ≤ k by omega)] at hcm
    refine TC.exit ?_
    refine Thn.exit ?_
    refine Lp.exit ?_
    refine Blk.hit ?_
    refine Thn.go ?_
    refine TC.seq ?_
    refine TC.seq ?_
    refine TC.region ?_
    refine TL.move rfl rfl ?_
    refine TL.lenSlice Tryd.underlying22 rfl rfl ?_
    refine TL.move rfl rfl ?_
    refine TL.lenSlice Tryd.underlying22 rfl rfl ?_
    refine TL.lss rfl rfl rfl ?_
    refine TL.done ?_
    refine Thn.go ?_
    refine TC.condP rfl (fun h4 => ?_) (fun h4 => ?_)
    ·
      obtain ⟨z, r, hz⟩ : ∃ z r, m.drop k = z :: r := ⟨_, _, drop_at (show k < m.length by omega)⟩
      rw [hz] at hcm
      refine TC.seq ?_
      refine TC.region ?_
      refine TL.assign rfl rfl ?_
      refine TL.done ?_
      refine Thn.go ?_
      refine TC.ret ?_
      refine Thn.ret ?_
      refine Ends.ret [6] rfl rfl ?_
      exact ⟨by rw [← hcm]; rfl, hch⟩
    ·
      rw [List.drop_eq_nil_of_le (show m.length ≤ k by omega)] at hcm
      refine TC.skip ?_
      refine Thn.go ?_
      refine TC.seq ?_
      refine TC.region ?_
      refine TL.assign rfl rfl ?_
      refine TL.done ?_
      refine Thn.go ?_
      refine TC.ret ?_
      refine Ends.ret [6] rfl rfl ?_
      exact ⟨by rw [← hcm]; rfl, hch⟩

theorem fn11 (a b : Value) (l m : List Part) (w : World) (ha : Rd w a 3 l.length (l.flatMap cl)) (hb : Rd w b 3 m.length (m.flatMap cl)) : Rets Tryd.prog 11 #[a, b] w (fun v w' => v = .bool (decide (cmpL l m < 0)) ∧ Ch [] w w') := by
  refine Rets.of (n := 9) (vs := [_, _]) Tryd.func11 rfl rfl rfl ?_
  refine TC.seq ?_
  refine TC.region ?_
  refine TL.assign rfl rfl ?_
  refine TL.done ?_
  refine Thn.go ?_
  refine TC.seq ?_
  refine TC.region ?_
  refine TL.move rfl rfl ?_
  refine TL.move rfl rfl ?_
  refine TL.call can28 rfl rfl (fn28 a b l m w ha hb) (fun v7 w7 hr7 => ?_)
  obtain ⟨rfl, hc7⟩ := hr7
  refine TL.lss rfl rfl rfl ?_
  refine TL.assign rfl rfl ?_
  refine TL.done ?_
  refine Thn.go ?_
  refine TC.ret ?_
  refine Ends.ret [4] rfl rfl ?_
  exact ⟨rfl, hc7⟩

