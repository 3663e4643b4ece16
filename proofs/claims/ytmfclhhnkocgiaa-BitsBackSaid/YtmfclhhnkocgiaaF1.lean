/-
  bits.Sum walked: for every slice of bytes it hands back the table's sum of them, and nothing that was there has turned.
-/
import Derived.Test.YtmfclhhnkocgiaaLaneE
import Derived.Test.YtmfclhhnkocgiaaBits
import Derived.Test.YtmfclhhnkocgiaaProg
import Derived.KernelRfl
namespace Go.Proofs.Ytmfclhhnkocgiaa
open Go.Lane

theorem sl22 : SliceT Try.prog 22 5 1 1 (.int .u8 0) := SliceT.mk' Try.underlying22 (by kernel_rfl) rfl rfl
theorem pl5 : Plain Try.prog 5 := ⟨_, Try.underlying5, rfl⟩
theorem pl23 : Plain Try.prog 23 := ⟨_, Try.underlying23, rfl⟩
theorem ar51 : ArrT Try.prog 51 16 23 1 := ⟨Try.underlying51, by kernel_rfl, by decide⟩
theorem sz51 : (Try.prog.info? 51).map (·.size) = some 16 := by kernel_rfl
theorem ze51 : ZeroT Try.prog 51 (.agg (Array.replicate 16 (.int .u32 0))) := by unfold ZeroT; kernel_rfl

theorem fn12 (w : World) (v : Value) (l : List UInt8) (hv : Rd w v 1 l.length (l.map u8)) : Rets Try.prog 12 #[v] w (fun r w' => r = u32 (Bits.sumT l) ∧ Ch [] w w') := by
  obtain ⟨a, c, rfl, _⟩ := hv.shape
  have hmax := hv.nlt
  unfold maxLen at hmax
  refine Rets.of (n := 38) (vs := [_]) Try.func12 rfl rfl rfl ?_
  refine TC.seq ?_
  refine TC.region ?_   -- region 0
  refine TL.assign rfl rfl ?_   -- 74: t2 := assign 0
  refine TL.done ?_
  refine Thn.go ?_
  refine TC.seq ?_
  refine TC.region ?_   -- region 1
  refine TL.val rfl (.agg (Bits.tabL.map u32).toArray) (fun a ha => by kernel_rfl) ?_
  refine TL.alloc ze51 rfl (fun w1 hb1 hc1 hz1 => ?_)   -- 75: t3 := alloc 51
  refine TL.store sz51 rfl rfl rfl hb1 (by decide) (by simp [Value.cells, Value.oneCell']) (.inl rfl) (fun w2 hb2 hc2 hz2 => ?_)   -- 75: - := store 51 t3 t7
  refine TL.done ?_
  refine Thn.go ?_
  refine TC.seq ?_
  refine TC.region ?_   -- region 2
  refine TL.assign rfl rfl ?_   -- 76: t4 := assign 4294967295
  refine TL.done ?_
  refine Thn.go ?_
  refine TC.seq ?_
  refine TC.seq ?_
  refine TC.region ?_   -- region 3
  refine TL.move rfl rfl ?_   -- 77: t8 := move t0
  refine TL.lenSlice Try.underlying22 rfl rfl ?_   -- 77: t9 := (Callee.builtin Builtin.len) t8
  refine TL.move rfl rfl ?_   -- 77: t10 := move 0
  refine TL.done ?_
  refine Thn.go ?_
  refine TC.block ?_   -- block 0
  have hch : Ch [] w w2 := hc1.then1 hc2 (Nat.le_refl _)
  rw [spl_all (by simp [Value.cells, Bits.tabL])] at hb2
  replace hb2 : Has w2 w.heap.size (Bits.tabL.map u32).toArray 51 (0, 0) := hb2
  refine TC.loop (ι := Nat) (fun k => [(3, .pointer (some ⟨w.heap.size, 0, none⟩)), (4, u32 ((l.take k).foldl Bits.stepT 4294967295)), (8, .slice a l.length c), (9, .int .i64 (l.length : Int)), (10, .int .i64 (k : Int))]) (fun k w' => k ≤ l.length ∧ w' = w2) (fun k => l.length - k) 0 (by exact ⟨rfl, rfl, rfl, rfl, rfl, trivial⟩) ⟨Nat.zero_le _, rfl⟩ (fun k w' hH => ?_)   -- LOOP
  obtain ⟨hk, rfl⟩ := hH
  refine TC.seq ?_
  refine TC.region ?_   -- region 4
  refine TL.lss rfl rfl rfl ?_   -- 77: t11 := binOp BinOp.lss 3 t10 t9 3
  refine TL.done ?_
  refine Thn.go ?_
  refine TC.seq ?_
  refine TC.condP rfl (fun h3 => ?_) (fun h3 => ?_)   -- t11
  ·
    have hlt : k < l.length := by omega
    obtain ⟨b, off, rfl, hcell⟩ := (hv.ch0 hch).at0 hlt
    rw [List.getElem?_map, List.getElem?_eq_getElem hlt] at hcell
    refine TC.skip ?_
    refine Thn.go ?_
    refine TC.seq ?_
    refine TC.block ?_   -- block 1
    refine TC.seq ?_
    refine TC.region ?_   -- region 5
    refine TL.indexAddr k sl22 rfl rfl rfl hlt rfl ?_   -- 77: t12 := indexAddr 22 t8 t10
    refine TL.load pl5 rfl (by rw [Nat.mul_one]; exact hcell) rfl ?_   -- 77: t13 := load 5 t12
    refine TL.assign rfl rfl ?_   -- 77: t6 := assign t13
    refine TL.done ?_
    refine Thn.go ?_
    refine TC.seq ?_
    refine TC.region ?_   -- region 6
    refine TL.move rfl rfl ?_   -- 78: t14 := move t4
    refine TL.shr_u32 rfl rfl (by decide) rfl ?_   -- 78: t15 := binOp BinOp.shr 23 t14 4 52
    refine TL.move rfl rfl ?_   -- 78: t16 := move t4
    refine TL.move rfl rfl ?_   -- 78: t17 := move t6
    refine TL.conv_u32 Try.underlying5 Try.underlying23 rfl rfl ?_   -- 78: t18 := convert 5 23 t17
    refine TL.xor_u32 rfl rfl rfl ?_   -- 78: t19 := binOp BinOp.xor 23 t16 t18 23
    refine TL.and_u32 (b := 15) rfl rfl rfl ?_   -- 78: t20 := binOp BinOp.and 23 t19 15 23
    refine TL.indexArr _ ar51 rfl rfl rfl (Bits.and15 _) rfl ?_   -- 78: t21 := indexAddr 51 t3 t20
    refine TL.load pl23 rfl (by rw [hb2.cell, Nat.mul_one, Nat.zero_add, List.getElem?_toArray, List.getElem?_map, map_getD _ _ 0 (Bits.and15 _)]; rfl) rfl ?_   -- 78: t22 := load 23 t21
    refine TL.xor_u32 rfl rfl rfl ?_   -- 78: t23 := binOp BinOp.xor 23 t15 t22 23
    refine TL.assign rfl rfl ?_   -- 78: t4 := assign t23
    refine TL.done ?_
    refine Thn.go ?_
    refine TC.region ?_   -- region 7
    refine TL.move rfl rfl ?_   -- 79: t24 := move t4
    refine TL.shr_u32 rfl rfl (by decide) rfl ?_   -- 79: t25 := binOp BinOp.shr 23 t24 4 52
    refine TL.move rfl rfl ?_   -- 79: t26 := move t4
    refine TL.move rfl rfl ?_   -- 79: t27 := move t6
    refine TL.shr_u8 rfl rfl (by decide) rfl ?_   -- 79: t28 := binOp BinOp.shr 5 t27 4 52
    refine TL.conv_u32 Try.underlying5 Try.underlying23 rfl rfl ?_   -- 79: t29 := convert 5 23 t28
    refine TL.xor_u32 rfl rfl rfl ?_   -- 79: t30 := binOp BinOp.xor 23 t26 t29 23
    refine TL.and_u32 (b := 15) rfl rfl rfl ?_   -- 79: t31 := binOp BinOp.and 23 t30 15 23
    refine TL.indexArr _ ar51 rfl rfl rfl (Bits.and15 _) rfl ?_   -- 79: t32 := indexAddr 51 t3 t31
    refine TL.load pl23 rfl (by rw [hb2.cell, Nat.mul_one, Nat.zero_add, List.getElem?_toArray, List.getElem?_map, map_getD _ _ 0 (Bits.and15 _)]; rfl) rfl ?_   -- 79: t33 := load 23 t32
    refine TL.xor_u32 rfl rfl rfl ?_   -- 79: t34 := binOp BinOp.xor 23 t25 t33 23
    refine TL.assign rfl rfl ?_   -- 79: t4 := assign t34
    refine TL.done ?_
    refine Blk.go ?_
    refine Thn.go ?_
    refine TC.region ?_   -- region 8
    refine TL.add_i64 rfl rfl (by omega) (by omega) rfl ?_   -- 77: t35 := binOp BinOp.add 3 t10 1 3
    refine TL.move rfl rfl ?_   -- 77: t10 := move t35
    refine TL.done ?_
    refine Lp.go (k + 1) (by rw [List.take_succ_eq_append_getElem hlt, List.foldl_append]; exact ⟨rfl, rfl, rfl, rfl, rfl, trivial⟩) ⟨hlt, rfl⟩ (by omega)
  ·
    have hkl : k = l.length := by omega
    subst hkl
    refine TC.exit ?_   -- exit 0
    refine Thn.exit ?_
    refine Lp.exit ?_
    refine Blk.hit ?_
    refine Thn.go ?_
    refine TC.seq ?_
    refine TC.region ?_   -- region 9
    refine TL.move rfl rfl ?_   -- 81: t36 := move t4
    refine TL.compl_u32 rfl rfl ?_   -- 81: t37 := unOp UnOp.xor 23 t36
    refine TL.assign rfl rfl ?_   -- 81: t2 := assign t37
    refine TL.done ?_
    refine Thn.go ?_
    refine TC.ret ?_
    refine Ends.ret [2] rfl rfl ?_
    exact ⟨by rw [List.take_length]; rfl, hch⟩

end Go.Proofs.Ytmfclhhnkocgiaa
