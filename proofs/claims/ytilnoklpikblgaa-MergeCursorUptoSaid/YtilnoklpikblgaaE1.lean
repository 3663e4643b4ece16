/-
  Walks through the given program: each theorem fnN says what the call of function N of the translation hands back, for all arguments that its premises describe, and that nothing that was there has turned.
-/
import Derived.Test.YtilnoklpikblgaaE0
import Derived.Lib.Bytealg
namespace Go.Proofs.Ytilnoklpikblgaa
open Go.Lane
open Go.En (orI cmpI cmpS)
theorem can31 : Callable Try.prog 31 := ⟨Try.f31, Try.func31, by kernel_rfl, rfl⟩
theorem can32 : Callable Try.prog 32 := ⟨Try.f32, Try.func32, by kernel_rfl, rfl⟩
theorem can33 : Callable Try.prog 33 := ⟨Try.f33, Try.func33, by kernel_rfl, rfl⟩
theorem can46 : Callable Try.prog 46 := ⟨Try.f46, Try.func46, by kernel_rfl, rfl⟩
theorem can47 : Callable Try.prog 47 := ⟨Try.f47, Try.func47, by kernel_rfl, rfl⟩
theorem fd32k0 : FieldT Try.prog 32 0 9 0 1 := ⟨_, _, Try.underlying32, rfl, rfl, rfl, by kernel_rfl, by decide⟩
theorem fd32k1 : FieldT Try.prog 32 1 9 1 1 := ⟨_, _, Try.underlying32, rfl, rfl, rfl, by kernel_rfl, by decide⟩
theorem fd32k2 : FieldT Try.prog 32 2 3 2 1 := ⟨_, _, Try.underlying32, rfl, rfl, rfl, by kernel_rfl, by decide⟩
theorem fd32k3 : FieldT Try.prog 32 3 4 3 1 := ⟨_, _, Try.underlying32, rfl, rfl, rfl, by kernel_rfl, by decide⟩
theorem mixed0 : Try.prog.follows .mixedOrders = true := by kernel_rfl
theorem pl3 : Plain Try.prog 3 := ⟨_, Try.underlying3, rfl⟩
theorem pl4 : Plain Try.prog 4 := ⟨_, Try.underlying4, rfl⟩
theorem pl9 : Plain Try.prog 9 := ⟨_, Try.underlying9, rfl⟩
theorem sl79 : SliceT Try.prog 79 3 1 8 (.int .i64 0) := SliceT.mk' Try.underlying79 (by kernel_rfl) rfl rfl
theorem flat_ints (l : List Int) : flat (l.map (Value.int .i64)) = l.map (Value.int .i64) := by
  induction l with
  | nil => rfl
  | cons x r ih => simp only [List.map_cons, flat, List.flatMap_cons] at ih ⊢; rw [ih]; rfl
theorem drop_at {α : Type} {l : List α} {k : Nat} (h : k < l.length) : l.drop k = l[k] :: l.drop (k + 1) := List.drop_eq_getElem_cons h
theorem compare_eq : ∀ (l m : List UInt8), Lib.compareBytes l m = cmpS l m
  | [], [] => by simp [Lib.compareBytes, cmpS, En.bl_nil_nil]
  | [], _ :: _ => by simp [Lib.compareBytes, cmpS, En.bl, Op.bytesLess]
  | _ :: _, [] => by simp [Lib.compareBytes, cmpS, En.bl, Op.bytesLess]
  | a :: r, b :: s => by
    have ih := compare_eq r s
    have hb := @En.bl_cons a b r s
    unfold Lib.compareBytes
    by_cases h : a < b
    · rw [if_pos h, cmpS, if_pos (hb.2 (.inl h))]
    · rw [if_neg h]
      by_cases h2 : b < a
      · have h3 : a ≠ b := fun e => by subst e; exact h h2
        have h4 : ¬ En.bl (a :: r) (b :: s) := fun e => by rcases hb.1 e with e | ⟨e, _⟩; exact h e; exact h3 e
        rw [if_pos h2, cmpS, if_neg h4, if_neg (fun e => by rcases e with e | e; exact h4 e; exact h3 (List.cons.inj e).1)]
      · have h3 : a = b := by
          apply UInt8.toNat.inj
          have h4 : ¬ a.toNat < b.toNat := h
          have h5 : ¬ b.toNat < a.toNat := h2
          omega
        subst h3
        have h4 : En.bl (a :: r) (a :: s) ↔ En.bl r s := ⟨fun e => by rcases hb.1 e with e | ⟨_, e⟩; exact absurd e h; exact e, fun e => hb.2 (.inr ⟨rfl, e⟩)⟩
        have h5 : a :: r = a :: s ↔ r = s := by simp
        rw [if_neg h2, ih, cmpS, cmpS]
        simp only [h4, h5]

theorem fn47 (x : Int) (w : World) : Rets Try.prog 47 #[.int .i64 x] w (fun v w' => v = .bool false ∧ w' = w) := by
  refine Rets.of (n := 6) (vs := [_]) Try.func47 rfl rfl rfl ?_
  refine TC.seq ?_
  refine TC.region ?_
  refine TL.assign rfl rfl ?_
  refine TL.done ?_
  refine Thn.go ?_
  refine TC.seq ?_
  refine TC.region ?_
  refine TL.move rfl rfl ?_
  refine TL.move rfl rfl ?_
  refine TL.neq rfl rfl rfl ?_
  refine TL.top (v' := .bool false) (by simp) ?_
  refine TL.assign rfl rfl ?_
  refine TL.done ?_
  refine Thn.go ?_
  refine TC.ret ?_
  refine Ends.ret [2] rfl rfl ?_
  exact ⟨rfl, rfl⟩

theorem fn33 (x y : Int) (w : World) : Rets Try.prog 33 #[.int .i64 x, .int .i64 y] w (fun v w' => v = .int .i64 (cmpI x y) ∧ w' = w) := by
  refine Rets.of (n := 20) (vs := [_, _]) Try.func33 rfl rfl rfl ?_
  refine TC.seq ?_
  refine TC.region ?_
  refine TL.assign rfl rfl ?_
  refine TL.done ?_
  refine Thn.go ?_
  refine TC.seq ?_
  refine TC.region ?_
  refine TL.move rfl rfl ?_
  refine TL.call can47 rfl rfl (fn47 x w) (fun v8 w8 hr8 => ?_)
  obtain ⟨rfl, rfl⟩ := hr8
  refine TL.assign rfl rfl ?_
  refine TL.done ?_
  refine Thn.go ?_
  refine TC.seq ?_
  refine TC.region ?_
  refine TL.move rfl rfl ?_
  refine TL.call can47 rfl rfl (fn47 y w8) (fun v10 w10 hr10 => ?_)
  obtain ⟨rfl, rfl⟩ := hr10
  refine TL.assign rfl rfl ?_
  refine TL.done ?_
  refine Thn.go ?_
  refine TC.seq ?_
  refine TC.seq ?_
  refine TC.region ?_
  refine TL.move rfl rfl ?_
  refine TL.done ?_
  refine Thn.go ?_
  refine TC.condF rfl rfl ?_
  refine TC.skip ?_
  refine Thn.go ?_
  refine TC.seq ?_
  refine TC.seq ?_
  refine TC.region ?_
  refine TL.move rfl rfl ?_
  refine TL.done ?_
  refine Thn.go ?_
  refine TC.condF rfl rfl ?_
  refine TC.skip ?_
  refine Thn.go ?_
  refine TC.seq ?_
  refine TC.seq ?_
  refine TC.region ?_
  refine TL.move rfl rfl ?_
  refine TL.move rfl rfl ?_
  refine TL.lss rfl rfl rfl ?_
  refine TL.done ?_
  refine Thn.go ?_
  refine TC.condP rfl (fun h3 => ?_) (fun h3 => ?_)
  ·
    refine TC.seq ?_
    refine TC.region ?_
    refine TL.assign rfl rfl ?_
    refine TL.done ?_
    refine Thn.go ?_
    refine TC.ret ?_
    refine Thn.ret ?_
    refine Ends.ret [4] rfl rfl ?_
    exact ⟨by unfold cmpI; rw [if_pos h3]; rfl, rfl⟩
  ·
    refine TC.skip ?_
    refine Thn.go ?_
    refine TC.seq ?_
    refine TC.seq ?_
    refine TC.region ?_
    refine TL.move rfl rfl ?_
    refine TL.move rfl rfl ?_
    refine TL.gtr rfl rfl rfl ?_
    refine TL.done ?_
    refine Thn.go ?_
    refine TC.condP rfl (fun h4 => ?_) (fun h4 => ?_)
    ·
      refine TC.seq ?_
      refine TC.region ?_
      refine TL.assign rfl rfl ?_
      refine TL.done ?_
      refine Thn.go ?_
      refine TC.ret ?_
      refine Thn.ret ?_
      refine Ends.ret [4] rfl rfl ?_
      exact ⟨by unfold cmpI; rw [if_neg h3, if_pos h4]; rfl, rfl⟩
    ·
      refine TC.skip ?_
      refine Thn.go ?_
      refine TC.seq ?_
      refine TC.region ?_
      refine TL.assign rfl rfl ?_
      refine TL.done ?_
      refine Thn.go ?_
      refine TC.ret ?_
      refine Ends.ret [4] rfl rfl ?_
      exact ⟨by unfold cmpI; rw [if_neg h3, if_neg h4]; rfl, rfl⟩

theorem fn46 (x y : List UInt8) (w : World) : Rets Try.prog 46 #[str x, str y] w (fun v w' => v = .int .i64 (cmpS x y) ∧ w' = w) := by
  refine Rets.of (n := 8) (vs := [_, _]) Try.func46 rfl rfl rfl ?_
  refine TC.seq ?_
  refine TC.region ?_
  refine TL.assign rfl rfl ?_
  refine TL.done ?_
  refine Thn.go ?_
  refine TC.seq ?_
  refine TC.region ?_
  refine TL.move rfl rfl ?_
  refine TL.move rfl rfl ?_
  refine TL.modelFn (v := .int .i64 (cmpS x y)) Try.func49 (by kernel_rfl) (by kernel_rfl) (by kernel_rfl) (e := Extern.BytealgCompare.compare) (by kernel_rfl) rfl (by rw [← compare_eq]; exact Lib.run_compareString _ _ _) rfl ?_
  refine TL.assign rfl rfl ?_
  refine TL.done ?_
  refine Thn.go ?_
  refine TC.ret ?_
  refine Ends.ret [4] rfl rfl ?_
  exact ⟨rfl, rfl⟩

theorem fn32 (x y : List UInt8) (w : World) : Rets Try.prog 32 #[str x, str y] w (fun v w' => v = .int .i64 (cmpS x y) ∧ w' = w) := by
  refine Rets.of (n := 8) (vs := [_, _]) Try.func32 rfl rfl rfl ?_
  refine TC.seq ?_
  refine TC.region ?_
  refine TL.assign rfl rfl ?_
  refine TL.done ?_
  refine Thn.go ?_
  refine TC.seq ?_
  refine TC.region ?_
  refine TL.move rfl rfl ?_
  refine TL.move rfl rfl ?_
  refine TL.call can46 rfl rfl (fn46 x y w) (fun v7 w7 hr7 => ?_)
  obtain ⟨rfl, rfl⟩ := hr7
  refine TL.assign rfl rfl ?_
  refine TL.done ?_
  refine Thn.go ?_
  refine TC.ret ?_
  refine Ends.ret [4] rfl rfl ?_
  exact ⟨rfl, rfl⟩

theorem fn31 (a : Value) (vs : List Int) (w : World) (ha : Rd w a 1 vs.length (vs.map (.int .i64))) : Rets Try.prog 31 #[a] w (fun v w' => v = .int .i64 (orI vs) ∧ w' = w) := by
  obtain ⟨ad, c, rfl, _⟩ := ha.shape
  have hmx : vs.length ≤ 9223372036854775807 := ha.nlt
  refine Rets.of (n := 18) (vs := [_]) Try.func31 rfl rfl rfl ?_
  refine TC.seq ?_
  refine TC.region ?_
  refine TL.assign rfl rfl ?_
  refine TL.done ?_
  refine Thn.go ?_
  refine TC.seq ?_
  refine TC.region ?_
  refine TL.assign rfl rfl ?_
  refine TL.done ?_
  refine Thn.go ?_
  refine TC.seq ?_
  refine TC.seq ?_
  refine TC.region ?_
  refine TL.move rfl rfl ?_
  refine TL.lenSlice Try.underlying79 rfl rfl ?_
  refine TL.move rfl rfl ?_
  refine TL.done ?_
  refine Thn.go ?_
  refine TC.block ?_
  refine TC.loop1 (fun (k : Nat) => [(3, .int .i64 0), (6, .slice ad vs.length c), (7, .int .i64 (vs.length : Int)), (8, .int .i64 (k : Int))]) (fun k w' => k ≤ vs.length ∧ orI (vs.drop k) = orI vs ∧ w' = w) (fun k => vs.length - k) 0 (by repeat (first | exact trivial | refine ⟨rfl, ?_⟩)) (⟨by omega, rfl, rfl⟩) (fun k w' hH => ?_)
  obtain ⟨hk, hor, rfl⟩ := hH
  refine TC.seq ?_
  refine TC.region ?_
  refine TL.lss rfl rfl rfl ?_
  refine TL.done ?_
  refine Thn.go ?_
  refine TC.seq ?_
  refine TC.condP rfl (fun h1 => ?_) (fun h1 => ?_)
  ·
    have hkl : k < vs.length := by omega
    obtain ⟨b, off, rfl, hcell⟩ := ha.at0 hkl
    rw [List.getElem?_map, List.getElem?_eq_getElem hkl] at hcell
    rw [drop_at hkl, orI] at hor
    refine TC.skip ?_
    refine Thn.go ?_
    refine TC.seq ?_
    refine TC.block ?_
    refine TC.seq ?_
    refine TC.region ?_
    refine TL.indexAddr (k) sl79 rfl rfl (by first | rfl | omega) (by omega) rfl ?_
    refine TL.load pl3 rfl (by rw [Nat.mul_one]; exact hcell) rfl ?_
    refine TL.assign rfl rfl ?_
    refine TL.done ?_
    refine Thn.go ?_
    refine TC.seq ?_
    refine TC.region ?_
    refine TL.move rfl rfl ?_
    refine TL.move rfl rfl ?_
    refine TL.neq rfl rfl rfl ?_
    refine TL.done ?_
    refine Thn.go ?_
    refine TC.condP rfl (fun h2 => ?_) (fun h2 => ?_)
    ·
      rw [if_pos h2] at hor
      refine TC.seq ?_
      refine TC.region ?_
      refine TL.move rfl rfl ?_
      refine TL.assign rfl rfl ?_
      refine TL.done ?_
      refine Thn.go ?_
      refine TC.ret ?_
      refine Blk.ret ?_
      refine Thn.ret ?_
      refine Lp.ret ?_
      refine Blk.ret ?_
      refine Thn.ret ?_
      refine Ends.ret [2] rfl rfl ?_
      exact ⟨by rw [← hor]; rfl, rfl⟩
    ·
      rw [if_neg h2] at hor
      refine TC.skip ?_
      refine Blk.go ?_
      refine Thn.go ?_
      refine TC.region ?_
      refine TL.add_i64 rfl rfl (by omega) (by omega) rfl ?_
      refine TL.move rfl rfl ?_
      refine TL.done ?_
      refine Lp.go (k + 1) (by repeat (first | exact trivial | refine ⟨rfl, ?_⟩)) ?_ (by first | omega | (dsimp only; omega))
      exact ⟨by omega, hor, rfl⟩
  ·
    rw [List.drop_eq_nil_of_le (by omega)] at hor
    refine TC.exit ?_
    refine Thn.exit ?_
    refine Lp.exit ?_
    refine Blk.hit ?_
    refine Thn.go ?_
    refine TC.seq ?_
    refine TC.region ?_
    refine TL.move rfl rfl ?_
    refine TL.assign rfl rfl ?_
    refine TL.done ?_
    refine Thn.go ?_
    refine TC.ret ?_
    refine Ends.ret [2] rfl rfl ?_
    exact ⟨by rw [← hor]; rfl, rfl⟩

theorem fn14 (x y : En.Entry) (w : World) : Rets Try.prog 14 #[.agg (cl x).toArray, .agg (cl y).toArray] w (fun v w' => v = .bool (decide (En.less x y)) ∧ Ch [] w w') := by
  refine Rets.of (n := 18) (vs := [_, _]) Try.func14 rfl rfl rfl ?_
  refine TC.seq ?_
  refine TC.region ?_
  refine TL.box rfl rfl (fun w2 hb2 hc2 hz2 => ?_)
  refine TL.box rfl rfl (fun w3 hb3 hc3 hz3 => ?_)
  have hx : Has w3 w.heap.size (cl x).toArray 32 (0, 0) := hb2.ch0 hc3
  have hy : Has w3 w2.heap.size (cl y).toArray 32 (0, 0) := hb3
  refine TL.assign rfl rfl ?_
  refine TL.done ?_
  refine Thn.go ?_
  refine TC.seq ?_
  refine TC.regionH (fun w' => Ch [] w3 w') mixed0 ?_
  have hS : (fun w' => Ch [] w3 w') _ := Ch.drew _ _
  refine TH.take (i := 0) rfl rfl rfl rfl rfl (by kernel_rfl) (by kernel_rfl) (by kernel_rfl) hS (fun w2 hw2 => TL.fieldAddr fd32k0 rfl rfl (TL.done ⟨rfl, rfl⟩)) ?_
  refine TH.take (i := 1) rfl rfl rfl rfl rfl (by kernel_rfl) (by kernel_rfl) (by kernel_rfl) hS (fun w2 hw2 => TL.load pl9 rfl ((hx.ch0 hw2).cell _) rfl (TL.done ⟨rfl, rfl⟩)) ?_
  refine TH.take (i := 2) rfl rfl rfl rfl rfl (by kernel_rfl) (by kernel_rfl) (by kernel_rfl) hS (fun w2 hw2 => TL.fieldAddr fd32k0 rfl rfl (TL.done ⟨rfl, rfl⟩)) ?_
  refine TH.take (i := 3) rfl rfl rfl rfl rfl (by kernel_rfl) (by kernel_rfl) (by kernel_rfl) hS (fun w2 hw2 => TL.load pl9 rfl ((hy.ch0 hw2).cell _) rfl (TL.done ⟨rfl, rfl⟩)) ?_
  refine TH.take (i := 5) rfl rfl rfl rfl rfl (by kernel_rfl) (by kernel_rfl) (by kernel_rfl) hS (fun w2 hw2 => TL.fieldAddr fd32k2 rfl rfl (TL.done ⟨rfl, rfl⟩)) ?_
  refine TH.take (i := 6) rfl rfl rfl rfl rfl (by kernel_rfl) (by kernel_rfl) (by kernel_rfl) hS (fun w2 hw2 => TL.load pl3 rfl ((hy.ch0 hw2).cell _) rfl (TL.done ⟨rfl, rfl⟩)) ?_
  refine TH.take (i := 7) rfl rfl rfl rfl rfl (by kernel_rfl) (by kernel_rfl) (by kernel_rfl) hS (fun w2 hw2 => TL.fieldAddr fd32k2 rfl rfl (TL.done ⟨rfl, rfl⟩)) ?_
  refine TH.take (i := 8) rfl rfl rfl rfl rfl (by kernel_rfl) (by kernel_rfl) (by kernel_rfl) hS (fun w2 hw2 => TL.load pl3 rfl ((hx.ch0 hw2).cell _) rfl (TL.done ⟨rfl, rfl⟩)) ?_
  refine TH.one (i := 4) (by kernel_rfl) rfl rfl ?_
  refine TL.call can32 rfl rfl (fn32 x.key y.key _) (fun v9 w9 hr9 => ?_)
  obtain ⟨rfl, rfl⟩ := hr9
  have hS : (fun w' => Ch [] w3 w') _ := hS
  refine TL.done ⟨hS, ?_⟩
  refine TH.one (i := 9) (by kernel_rfl) rfl rfl ?_
  refine TL.call can33 rfl rfl (fn33 y.seq x.seq _) (fun v14 w14 hr14 => ?_)
  obtain ⟨rfl, rfl⟩ := hr14
  have hS : (fun w' => Ch [] w3 w') _ := hS
  refine TL.done ⟨hS, ?_⟩
  refine TH.one (i := 10) (by kernel_rfl) rfl rfl ?_
  refine TL.buildSlice [.tmp 9, .tmp 14] sl79 rfl rfl rfl (by decide) (by first | simp [Value.cells]; done | simp [Value.cells, cl_len]; done) rfl (fun w15 hb15 hc15 hz15 => ?_)
  have hS : (fun w' => Ch [] w3 w') _ := hS.trans0 hc15
  refine TL.done ⟨hS, ?_⟩
  refine TH.one (i := 11) (by kernel_rfl) rfl rfl ?_
  refine TL.call can31 rfl rfl (fn31 _ [cmpS x.key y.key, cmpI y.seq x.seq] w15 (by have h := Rd.ofFlat (sz := 1) (vs := [cmpS x.key y.key, cmpI y.seq x.seq].map (Value.int .i64)) (m := 2) hb15 (by simp [Value.cells]) rfl (by decide); rw [flat_ints] at h; exact h)) (fun v16 w16 hr16 => ?_)
  obtain ⟨rfl, rfl⟩ := hr16
  have hS : (fun w' => Ch [] w3 w') _ := hS
  refine TL.done ⟨hS, ?_⟩
  refine TH.take (i := 12) rfl rfl rfl rfl rfl (by kernel_rfl) (by kernel_rfl) (by kernel_rfl) hS (fun w2 hw2 => TL.lss rfl rfl rfl (TL.done ⟨rfl, rfl⟩)) ?_
  refine TH.take (i := 13) rfl rfl rfl rfl rfl (by kernel_rfl) (by kernel_rfl) (by kernel_rfl) hS (fun w2 hw2 => TL.assign rfl rfl (TL.done ⟨rfl, rfl⟩)) ?_
  refine TH.done (by kernel_rfl) ?_
  refine Thn.go ?_
  refine TC.ret ?_
  refine Ends.ret [4] rfl rfl ?_
  exact ⟨congrArg Value.bool (decide_eq_decide.2 (En.less_cmp x y)), (hc2.trans0 hc3).trans0 hS⟩

theorem fn36 (x y : En.Entry) (w : World) : Rets Try.prog 36 #[.agg (cl x).toArray, .agg (cl y).toArray] w (fun v w' => v = .bool (decide (En.less x y)) ∧ Ch [] w w') := by
  refine Rets.of (n := 20) (vs := [_, _]) Try.func36 rfl rfl rfl ?_
  refine TC.seq ?_
  refine TC.region ?_
  refine TL.box rfl rfl (fun w2 hb2 hc2 hz2 => ?_)
  refine TL.box rfl rfl (fun w3 hb3 hc3 hz3 => ?_)
  have hx : Has w3 w.heap.size (cl x).toArray 32 (0, 0) := hb2.ch0 hc3
  have hy : Has w3 w2.heap.size (cl y).toArray 32 (0, 0) := hb3
  refine TL.assign rfl rfl ?_
  refine TL.done ?_
  refine Thn.go ?_
  refine TC.seq ?_
  refine TC.seq ?_
  refine TC.region ?_
  refine TL.fieldAddr fd32k0 rfl rfl ?_
  refine TL.load pl9 rfl (hx.cell _) rfl ?_
  refine TL.fieldAddr fd32k0 rfl rfl ?_
  refine TL.load pl9 rfl (hy.cell _) rfl ?_
  refine TL.neqStr rfl rfl rfl ?_
  refine TL.done ?_
  refine Thn.go ?_
  refine TC.condP rfl (fun h1 => ?_) (fun h1 => ?_)
  ·
    have hk : ¬ x.key = y.key := by assumption
    have e : Op.bytesLess x.key y.key = decide (En.less x y) := by rw [Bool.eq_iff_iff, decide_eq_true_iff]; unfold En.less; rw [if_neg hk]; exact Iff.rfl
    refine TC.seq ?_
    refine TC.region ?_
    refine TL.fieldAddr fd32k0 rfl rfl ?_
    refine TL.load pl9 rfl (hx.cell _) rfl ?_
    refine TL.fieldAddr fd32k0 rfl rfl ?_
    refine TL.load pl9 rfl (hy.cell _) rfl ?_
    refine TL.lssStr rfl rfl rfl ?_
    refine TL.assign rfl rfl ?_
    refine TL.done ?_
    refine Thn.go ?_
    refine TC.ret ?_
    refine Thn.ret ?_
    refine Ends.ret [4] rfl rfl ?_
    exact ⟨congrArg Value.bool e, hc2.trans0 hc3⟩
  ·
    have hk : x.key = y.key := Decidable.not_not.1 (by assumption)
    refine TC.skip ?_
    refine Thn.go ?_
    refine TC.seq ?_
    refine TC.region ?_
    refine TL.fieldAddr fd32k2 rfl rfl ?_
    refine TL.load pl3 rfl (hx.cell _) rfl ?_
    refine TL.fieldAddr fd32k2 rfl rfl ?_
    refine TL.load pl3 rfl (hy.cell _) rfl ?_
    refine TL.gtr rfl rfl rfl ?_
    refine TL.assign rfl rfl ?_
    refine TL.done ?_
    refine Thn.go ?_
    refine TC.ret ?_
    refine Ends.ret [4] rfl rfl ?_
    exact ⟨congrArg Value.bool (decide_eq_decide.2 (by unfold En.less; rw [if_pos hk])), hc2.trans0 hc3⟩

theorem fn40 (x : En.Entry) (w : World) : Rets Try.prog 40 #[.agg (cl x).toArray] w (fun v w' => v = .int .i64 (En.one x : Int) ∧ Ch [] w w') := by
  refine Rets.of (n := 32) (vs := [_]) Try.func40 rfl rfl rfl ?_
  refine TC.seq ?_
  refine TC.region ?_
  refine TL.box rfl rfl (fun w1 hb1 hc1 hz1 => ?_)
  replace hb1 : Has w1 w.heap.size (cl x).toArray 32 (0, 0) := hb1
  refine TL.assign rfl rfl ?_
  refine TL.done ?_
  refine Thn.go ?_
  refine TC.seq ?_
  refine TC.regionBool (d := 12) (p := (x.key.length < 1 ∨ 256 < x.key.length)) (fun K1 hK1 => ?_) ?_
  ·
    refine TL.fieldAddr fd32k0 rfl rfl ?_
    refine TL.load pl9 rfl (hb1.cell _) rfl ?_
    refine TL.lenStr Try.underlying9 rfl rfl ?_
    refine TL.lss rfl rfl rfl ?_
    refine TL.em (fun e6 => ?_) (fun e6 => ?_)
    ·
      refine TL.move rfl rfl ?_
      refine TL.guardNo (d := 7) rfl rfl rfl rfl rfl ?_
      refine TL.guardNo (d := 7) rfl rfl rfl rfl rfl ?_
      refine TL.guardNo (d := 7) rfl rfl rfl rfl rfl ?_
      refine TL.guardNo (d := 7) rfl rfl rfl rfl rfl ?_
      refine TL.pickT rfl rfl rfl rfl ?_
      refine TL.done ?_
      refine hK1 _ ?_
      refine Le.here rfl (by first | exact decide_eq_true (by omega) | exact decide_eq_false (by omega) | exact decide_eq_decide.2 (by omega) | exact decide_eq_true (by grind) | exact decide_eq_false (by grind) | exact decide_eq_decide.2 (by grind)) ?_
      repeat (first | exact Le.refl _ | refine Le.skip rfl ?_)
    ·
      refine TL.move rfl rfl ?_
      refine TL.guardYes (d := 7) rfl rfl rfl ?_
      refine TL.fieldAddr fd32k0 rfl rfl ?_
      refine TL.guardYes (d := 7) rfl rfl rfl ?_
      refine TL.load pl9 rfl (hb1.cell _) rfl ?_
      refine TL.guardYes (d := 7) rfl rfl rfl ?_
      refine TL.lenStr Try.underlying9 rfl rfl ?_
      refine TL.guardYes (d := 7) rfl rfl rfl ?_
      refine TL.gtr rfl rfl rfl ?_
      refine TL.pickF rfl rfl rfl rfl ?_
      refine TL.done ?_
      refine hK1 _ ?_
      refine Le.here rfl (by first | exact decide_eq_true (by omega) | exact decide_eq_false (by omega) | exact decide_eq_decide.2 (by omega) | exact decide_eq_true (by grind) | exact decide_eq_false (by grind) | exact decide_eq_decide.2 (by grind)) ?_
      repeat (first | exact Le.refl _ | refine Le.skip rfl ?_)
  refine TC.condP rfl (fun h3 => ?_) (fun h3 => ?_)
  ·
    have g1 : x.key.length < 1 ∨ 256 < x.key.length := by assumption
    refine TC.seq ?_
    refine TC.region ?_
    refine TL.assign rfl rfl ?_
    refine TL.done ?_
    refine Thn.go ?_
    refine TC.ret ?_
    refine Thn.ret ?_
    refine Ends.ret [2] rfl rfl ?_
    exact ⟨by rw [En.one_key g1]; rfl, hc1⟩
  ·
    have g1 : ¬ (x.key.length < 1 ∨ 256 < x.key.length) := by assumption
    refine TC.skip ?_
    refine Thn.go ?_
    refine TC.seq ?_
    refine TC.seq ?_
    refine TC.region ?_
    refine TL.fieldAddr fd32k1 rfl rfl ?_
    refine TL.load pl9 rfl (hb1.cell _) rfl ?_
    refine TL.lenStr Try.underlying9 rfl rfl ?_
    refine TL.gtr rfl rfl rfl ?_
    refine TL.done ?_
    refine Thn.go ?_
    refine TC.condP rfl (fun h4 => ?_) (fun h4 => ?_)
    ·
      have g2 : 4096 < x.value.length := by omega
      refine TC.seq ?_
      refine TC.region ?_
      refine TL.assign rfl rfl ?_
      refine TL.done ?_
      refine Thn.go ?_
      refine TC.ret ?_
      refine Thn.ret ?_
      refine Ends.ret [2] rfl rfl ?_
      exact ⟨by rw [En.one_text g1 g2]; rfl, hc1⟩
    ·
      have g2 : ¬ 4096 < x.value.length := by omega
      refine TC.skip ?_
      refine Thn.go ?_
      refine TC.seq ?_
      refine TC.regionBool (d := 24) (p := (x.seq < 0 ∨ 2147483647 < x.seq)) (fun K5 hK5 => ?_) ?_
      ·
        refine TL.fieldAddr fd32k2 rfl rfl ?_
        refine TL.load pl3 rfl (hb1.cell _) rfl ?_
        refine TL.lss rfl rfl rfl ?_
        refine TL.em (fun e19 => ?_) (fun e19 => ?_)
        ·
          refine TL.move rfl rfl ?_
          refine TL.guardNo (d := 20) rfl rfl rfl rfl rfl ?_
          refine TL.guardNo (d := 20) rfl rfl rfl rfl rfl ?_
          refine TL.guardNo (d := 20) rfl rfl rfl rfl rfl ?_
          refine TL.pickT rfl rfl rfl rfl ?_
          refine TL.done ?_
          refine hK5 _ ?_
          refine Le.here rfl (by first | exact decide_eq_true (by omega) | exact decide_eq_false (by omega) | exact decide_eq_decide.2 (by omega) | exact decide_eq_true (by grind) | exact decide_eq_false (by grind) | exact decide_eq_decide.2 (by grind)) ?_
          repeat (first | exact Le.refl _ | refine Le.skip rfl ?_)
        ·
          refine TL.move rfl rfl ?_
          refine TL.guardYes (d := 20) rfl rfl rfl ?_
          refine TL.fieldAddr fd32k2 rfl rfl ?_
          refine TL.guardYes (d := 20) rfl rfl rfl ?_
          refine TL.load pl3 rfl (hb1.cell _) rfl ?_
          refine TL.guardYes (d := 20) rfl rfl rfl ?_
          refine TL.gtr rfl rfl rfl ?_
          refine TL.pickF rfl rfl rfl rfl ?_
          refine TL.done ?_
          refine hK5 _ ?_
          refine Le.here rfl (by first | exact decide_eq_true (by omega) | exact decide_eq_false (by omega) | exact decide_eq_decide.2 (by omega) | exact decide_eq_true (by grind) | exact decide_eq_false (by grind) | exact decide_eq_decide.2 (by grind)) ?_
          repeat (first | exact Le.refl _ | refine Le.skip rfl ?_)
      refine TC.condP rfl (fun h7 => ?_) (fun h7 => ?_)
      ·
        have g3 : x.seq < 0 ∨ 2147483647 < x.seq := by assumption
        refine TC.seq ?_
        refine TC.region ?_
        refine TL.assign rfl rfl ?_
        refine TL.done ?_
        refine Thn.go ?_
        refine TC.ret ?_
        refine Thn.ret ?_
        refine Ends.ret [2] rfl rfl ?_
        exact ⟨by rw [En.one_arg g1 g2 g3]; rfl, hc1⟩
      ·
        have g3 : ¬ (x.seq < 0 ∨ 2147483647 < x.seq) := by assumption
        refine TC.skip ?_
        refine Thn.go ?_
        refine TC.seq ?_
        refine TC.regionBool (d := 31) (p := (x.gone = true ∧ x.value ≠ [])) (fun K8 hK8 => ?_) ?_
        ·
          refine TL.fieldAddr fd32k3 rfl rfl ?_
          refine TL.load pl4 rfl (hb1.cell _) rfl ?_
          refine TL.emB (fun e26 => ?_) (fun e26 => ?_)
          ·
            refine TL.move rfl rfl ?_
            refine TL.guardYes (d := 27) rfl rfl rfl ?_
            refine TL.fieldAddr fd32k1 rfl rfl ?_
            refine TL.guardYes (d := 27) rfl rfl rfl ?_
            refine TL.load pl9 rfl (hb1.cell _) rfl ?_
            refine TL.guardYes (d := 27) rfl rfl rfl ?_
            refine TL.neqStr rfl rfl rfl ?_
            refine TL.pickT rfl rfl rfl rfl ?_
            refine TL.done ?_
            refine hK8 _ ?_
            refine Le.here rfl (by first | exact decide_eq_true (by omega) | exact decide_eq_false (by omega) | exact decide_eq_decide.2 (by omega) | exact decide_eq_true (by grind) | exact decide_eq_false (by grind) | exact decide_eq_decide.2 (by grind)) ?_
            repeat (first | exact Le.refl _ | refine Le.skip rfl ?_)
          ·
            refine TL.move rfl rfl ?_
            refine TL.guardNo (d := 27) rfl rfl rfl rfl rfl ?_
            refine TL.guardNo (d := 27) rfl rfl rfl rfl rfl ?_
            refine TL.guardNo (d := 27) rfl rfl rfl rfl rfl ?_
            refine TL.pickF rfl rfl rfl rfl ?_
            refine TL.done ?_
            refine hK8 _ ?_
            refine Le.here rfl (by first | exact decide_eq_true (by omega) | exact decide_eq_false (by omega) | exact decide_eq_decide.2 (by omega) | exact decide_eq_true (by grind) | exact decide_eq_false (by grind) | exact decide_eq_decide.2 (by grind)) ?_
            repeat (first | exact Le.refl _ | refine Le.skip rfl ?_)
        refine TC.condP rfl (fun h9 => ?_) (fun h9 => ?_)
        ·
          have g4 : x.gone = true ∧ x.value ≠ [] := by assumption
          refine TC.seq ?_
          refine TC.region ?_
          refine TL.assign rfl rfl ?_
          refine TL.done ?_
          refine Thn.go ?_
          refine TC.ret ?_
          refine Thn.ret ?_
          refine Ends.ret [2] rfl rfl ?_
          exact ⟨by rw [En.one_bad g1 g2 g3 g4]; rfl, hc1⟩
        ·
          have g4 : ¬ (x.gone = true ∧ x.value ≠ []) := by assumption
          refine TC.skip ?_
          refine Thn.go ?_
          refine TC.seq ?_
          refine TC.region ?_
          refine TL.assign rfl rfl ?_
          refine TL.done ?_
          refine Thn.go ?_
          refine TC.ret ?_
          refine Ends.ret [2] rfl rfl ?_
          exact ⟨by rw [En.one_ok g1 g2 g3 g4]; rfl, hc1⟩

