/-
  Walks through the given program: each theorem fnN says what the call of function N of the translation hands back, for all arguments that its premises describe, and that nothing that was there has turned.
-/
import Derived.Test.YteogahcefkepaaaSk
namespace Go.Proofs.Yteogahcefkepaaa
open Go.Lane
theorem fd52k0 : FieldT Try.prog 52 0 49 0 1 := ⟨_, _, Try.underlying52, rfl, rfl, rfl, by kernel_rfl, by decide⟩
theorem fd52k2 : FieldT Try.prog 52 2 50 2 1 := ⟨_, _, Try.underlying52, rfl, rfl, rfl, by kernel_rfl, by decide⟩
theorem pl49 : Plain Try.prog 49 := ⟨_, Try.underlying49, rfl⟩
theorem pl50 : Plain Try.prog 50 := ⟨_, Try.underlying50, rfl⟩
theorem sl54 : SliceT Try.prog 54 49 1 8 (.pointer none) := SliceT.mk' Try.underlying54 (by kernel_rfl) rfl rfl
theorem sz50 : (Try.prog.info? 50).map (·.size) = some 1 := by kernel_rfl
theorem made_nil (m : Nat) : (madeCells (Value.pointer none).cells (m * 1)).toList = List.replicate m (.pointer none) := by
  refine List.ext_getElem? (fun i => ?_)
  simp only [madeCells, Array.toList_map, Nat.mul_one, Array.toList_range, List.getElem?_map, List.getElem?_replicate]
  by_cases h : i < m
  · rw [List.getElem?_range h, if_pos h]; simp [Value.cells, Nat.mod_one]
  · rw [List.getElem?_eq_none (by simp; omega), if_neg h]; rfl
/-- What a row of links has at first. -/
theorem made_has {w : World} {b m : Nat} (h : Own w b 49 1 (.slice (some ⟨b, 0, none⟩) m m) m (madeCells (Value.pointer none).cells (m * 1)).toList) : Has w b (List.replicate m (Value.pointer none)).toArray 49 (0, 0) := by
  obtain ⟨cur, h1, h2, _, _, _, h6⟩ := h.has
  rw [made_nil, List.take_of_length_le (by simp [h2])] at h6
  rw [← h6]
  simpa using h1

theorem fn24 (Q p : Nat) (mv dv : Value) (w : World) (hQ : Has w Q #[.pointer (some ⟨p, 0, none⟩), mv, dv] 52 (0, 0)) : Rets Try.prog 24 #[.pointer (some ⟨Q, 0, none⟩)] w (fun r w' => r = .bool false ∧ w' = w) := by
  refine Rets.of (n := 12) (vs := [_]) Try.func24 rfl rfl rfl ?_
  refine TC.seq ?_
  refine TC.region ?_
  refine TL.assign rfl rfl ?_
  refine TL.done ?_
  refine Thn.go ?_
  refine TC.seq ?_
  refine TC.region ?_
  refine TL.move rfl rfl ?_
  refine TL.eqlPtrNil Try.underlying25 rfl rfl rfl ?_
  refine TL.no (by simp) ?_
  refine TL.move rfl rfl ?_
  refine TL.guardYes (d := 5) rfl rfl rfl ?_
  refine TL.move rfl rfl ?_
  refine TL.guardYes (d := 5) rfl rfl rfl ?_
  refine TL.nilCheck rfl rfl ?_
  refine TL.guardYes (d := 5) rfl rfl rfl ?_
  refine TL.fieldAddr fd52k0 rfl rfl ?_
  refine TL.guardYes (d := 5) rfl rfl rfl ?_
  refine TL.load pl49 rfl (hQ.cell 0) rfl ?_
  refine TL.guardYes (d := 5) rfl rfl rfl ?_
  refine TL.eqlPtrNil Try.underlying49 rfl rfl rfl ?_
  refine TL.pickF rfl rfl rfl rfl ?_
  refine TL.assign rfl rfl ?_
  refine TL.done ?_
  refine Thn.go ?_
  refine TC.ret ?_
  refine Ends.ret [2] rfl rfl ?_
  exact ⟨by show Value.bool (decide _) = _; simp, rfl⟩

theorem fn27 (Q : Nat) (pv mv : Value) (d : UInt32) (w : World) (hQ : Has w Q #[pv, mv, u32 d] 52 (0, 0)) : Rets Try.prog 27 #[.pointer (some ⟨Q, 0, none⟩)] w (fun r w' => (∃ h : Nat, r = .int .i64 (h : Int) ∧ 1 ≤ h ∧ h ≤ 8) ∧ (∃ d' : UInt32, Has w' Q #[pv, mv, u32 d'] 52 (0, 0)) ∧ Ch [Q] w w') := by
  refine Rets.of (n := 31) (vs := [_]) Try.func27 rfl rfl rfl ?_
  refine TC.seq ?_
  refine TC.region ?_
  refine TL.assign rfl rfl ?_
  refine TL.done ?_
  refine Thn.go ?_
  refine TC.seq ?_
  refine TC.region ?_
  refine TL.move rfl rfl ?_
  refine TL.move rfl rfl ?_
  refine TL.nilCheck rfl rfl ?_
  refine TL.fieldAddr fd52k2 rfl rfl ?_
  refine TL.load pl50 rfl (hQ.cell 2) rfl ?_
  refine TL.mul_u32 (b := 1664525) rfl rfl rfl ?_
  refine TL.add_u32 (b := 1013904223) rfl rfl rfl ?_
  refine TL.nilCheck rfl rfl ?_
  refine TL.fieldAddr fd52k2 rfl rfl ?_
  refine TL.store sz50 rfl rfl rfl hQ (by simp) (by simp [Value.cells, Value.oneCell']) (.inl rfl) (fun ws1 hbs1 hcs1 hzs1 => ?_)
  refine TL.done ?_
  refine Thn.go ?_
  refine TC.seq ?_
  refine TC.region ?_
  refine TL.assign rfl rfl ?_
  refine TL.done ?_
  refine Thn.go ?_
  refine TC.seq ?_
  refine TC.seq ?_
  refine TC.region ?_
  refine TL.move rfl rfl ?_
  refine TL.nilCheck rfl rfl ?_
  refine TL.fieldAddr fd52k2 rfl rfl ?_
  refine TL.load pl50 rfl (hbs1.cell 2) rfl ?_
  refine TL.shr_u32 rfl rfl (by decide) rfl ?_
  refine TL.assign rfl rfl ?_
  refine TL.done ?_
  refine Thn.go ?_
  refine TC.block ?_
  refine TC.loop2 (fun (n : Nat) (dd : UInt32) => [(3, .int .i64 (n : Int)), (4, u32 dd)]) (fun n dd w' => 1 ≤ n ∧ n ≤ 8 ∧ w' = ws1) (fun n _ => 8 - n) 1 _ (by repeat (first | exact trivial | refine ⟨rfl, ?_⟩)) (⟨by omega, by omega, rfl⟩) (fun n dd w' hI => ?_)
  obtain ⟨hn1, hn8, rfl⟩ := hI
  refine TC.seq ?_
  refine TC.regionBool (d := 25) (p := (((dd &&& 1).toNat : Int) = 1 ∧ n < 8)) (fun K1 hK1 => ?_) ?_
  ·
    refine TL.move rfl rfl ?_
    refine TL.and_u32 (b := 1) rfl rfl rfl ?_
    refine TL.eql rfl rfl rfl ?_
    refine TL.em (fun e21 => ?_) (fun e21 => ?_)
    ·
      refine TL.move rfl rfl ?_
      refine TL.guardYes (d := 22) rfl rfl rfl ?_
      refine TL.move rfl rfl ?_
      refine TL.guardYes (d := 22) rfl rfl rfl ?_
      refine TL.lss rfl rfl rfl ?_
      refine TL.pickT rfl rfl rfl rfl ?_
      refine TL.done ?_
      refine hK1 _ ?_
      refine Le.here rfl (by first | exact decide_eq_true (by omega) | exact decide_eq_false (by omega) | exact decide_eq_decide.2 (by omega) | exact decide_eq_true (by grind) | exact decide_eq_false (by grind) | exact decide_eq_decide.2 (by grind)) ?_
      repeat (first | exact Le.refl _ | refine Le.skip rfl ?_)
    ·
      refine TL.move rfl rfl ?_
      refine TL.guardNo (d := 22) rfl rfl rfl rfl rfl ?_
      refine TL.guardNo (d := 22) rfl rfl rfl rfl rfl ?_
      refine TL.pickF rfl rfl rfl rfl ?_
      refine TL.done ?_
      refine hK1 _ ?_
      refine Le.here rfl (by first | exact decide_eq_true (by omega) | exact decide_eq_false (by omega) | exact decide_eq_decide.2 (by omega) | exact decide_eq_true (by grind) | exact decide_eq_false (by grind) | exact decide_eq_decide.2 (by grind)) ?_
      repeat (first | exact Le.refl _ | refine Le.skip rfl ?_)
  refine TC.condP rfl (fun h3 => ?_) (fun h3 => ?_)
  ·
    refine TC.skip ?_
    refine Thn.go ?_
    refine TC.seq ?_
    refine TC.block ?_
    refine TC.region ?_
    refine TL.move rfl rfl ?_
    refine TL.add_i64 rfl rfl (by omega) (by omega) rfl ?_
    refine TL.assign rfl rfl ?_
    refine TL.done ?_
    refine Blk.go ?_
    refine Thn.go ?_
    refine TC.region ?_
    refine TL.move rfl rfl ?_
    refine TL.shr_u32 rfl rfl (by decide) rfl ?_
    refine TL.assign rfl rfl ?_
    refine TL.done ?_
    refine Lp.go ((n + 1, _)) (by repeat (first | exact trivial | refine ⟨rfl, ?_⟩)) ?_ (by first | omega | (dsimp only; omega))
    exact ⟨by show 1 ≤ n + 1; omega, by show n + 1 ≤ 8; omega, rfl⟩
  ·
    refine TC.exit ?_
    refine Thn.exit ?_
    refine Lp.exit ?_
    refine Blk.hit ?_
    refine Thn.go ?_
    refine TC.seq ?_
    refine TC.region ?_
    refine TL.move rfl rfl ?_
    refine TL.assign rfl rfl ?_
    refine TL.done ?_
    refine Thn.go ?_
    refine TC.ret ?_
    refine Ends.ret [2] rfl rfl ?_
    exact ⟨⟨n, rfl, hn1, hn8⟩, ⟨_, hbs1⟩, hcs1⟩

theorem fn9 (w : World) : Rets Try.prog 9 #[] w (fun r w' => ∃ Q hd, r = .pointer (some ⟨Q, 0, none⟩) ∧ Sk w' Q hd [] ∧ (∀ b ∈ Q :: feet [hd], w.heap.size ≤ b) ∧ Ch [] w w') := by
  refine Rets.of (n := 6) (vs := []) Try.func9 rfl rfl rfl ?_
  refine TC.seq ?_
  refine TC.region ?_
  refine TL.assign rfl rfl ?_
  refine TL.done ?_
  refine Thn.go ?_
  refine TC.seq ?_
  refine TC.region ?_
  refine TL.makeSlice (8) sl54 rfl rfl rfl (by decide) (by decide) rfl (fun w1 hv1 hc1 hz1 => ?_)
  refine TL.buildRec [1] [.tmp 1] (cl e0 ++ [Value.slice (some ⟨w.heap.size, 0, none⟩) 8 8]) rfl rfl (by kernel_rfl) rfl ?_
  refine TL.box rfl rfl (fun w3 hb3 hc3 hz3 => ?_)
  refine TL.buildRec [0, 2] [.tmp 3, .const (Value.int IntKind.u32 1)] ([.pointer (some ⟨w1.heap.size, 0, none⟩), .int .i64 0, .int .u32 1]) rfl rfl (by kernel_rfl) rfl ?_
  refine TL.box rfl rfl (fun w5 hb5 hc5 hz5 => ?_)
  refine TL.assign rfl rfl ?_
  refine TL.done ?_
  refine Thn.go ?_
  refine TC.ret ?_
  refine Ends.ret [0] rfl rfl ?_
  have h8 := made_has hv1
  exact ⟨w3.heap.size, ⟨w1.heap.size, w.heap.size, 8, e0⟩, rfl, ⟨⟨1, hb5⟩, fun n hn => by rw [List.mem_singleton.1 hn]; exact Has.ch0 hb3 hc5, ⟨(h8.ch0 hc3).ch0 hc5, trivial⟩, fun n hn => by rw [List.mem_singleton.1 hn]; exact ⟨by show 1 ≤ 8; decide, by show 8 ≤ 8; decide⟩, rfl, by simp [feet]; omega⟩, fun b hb => by simp [feet] at hb; omega, hc1.trans0 (hc3.trans0 hc5)⟩

