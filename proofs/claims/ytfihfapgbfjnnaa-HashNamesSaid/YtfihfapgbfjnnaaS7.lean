/-
  Walks through the given program: each theorem fnN says what the call of function N of the translation hands back, for all arguments that its premises describe, and that nothing that was there has turned.
-/
import Derived.Test.YtfihfapgbfjnnaaS6
namespace Go.Proofs.Ytfihfapgbfjnnaa
open Go.Lane
theorem ar59 : ArrT Try.prog 59 64 5 1 := ⟨Try.underlying59, by kernel_rfl, by decide⟩
theorem can14 : Callable Try.prog 14 := ⟨Try.f14, Try.func14, by kernel_rfl, rfl⟩
theorem can15 : Callable Try.prog 15 := ⟨Try.f15, Try.func15, by kernel_rfl, rfl⟩
theorem can16 : Callable Try.prog 16 := ⟨Try.f16, Try.func16, by kernel_rfl, rfl⟩
theorem can17 : Callable Try.prog 17 := ⟨Try.f17, Try.func17, by kernel_rfl, rfl⟩
theorem can18 : Callable Try.prog 18 := ⟨Try.f18, Try.func18, by kernel_rfl, rfl⟩
theorem gd30 : Try.prog.eqGuardType Try.prog.depth 30 = false := by kernel_rfl
theorem ze59 : ZeroT Try.prog 59 (.agg (Array.replicate 64 (.int .u8 0))) := by unfold ZeroT; kernel_rfl

theorem fn16 (a b : Value) (s l : List UInt8) (hs : s.length ≤ 100000000000) (hl : l.length ≤ 100000000000) (w : World) (ha : Rd w a 1 s.length (s.map u8)) (hb : Rd w b 1 l.length (l.map u8)) : Rets Try.prog 16 #[a, b] w (fun v w' => v = .agg ((Sha.hmac s l).map u8).toArray ∧ Ch [] w w') := by
  obtain ⟨aa, ca, rfl, _⟩ := ha.shape
  obtain ⟨ab, cb, rfl, _⟩ := hb.shape
  have hmm : maxLen = 9223372036854775807 := rfl
  have hkb := Sha.keyB_len s
  have hkt := Sha.keyT_len s
  have hss := Sha.sum_len s
  have hsl := Sha.hmac_len s l
  obtain ⟨P1, hP1⟩ : ∃ P, Sha.pad s 0x36 = P := ⟨_, rfl⟩
  obtain ⟨P2, hP2⟩ : ∃ P, Sha.pad s 0x5c = P := ⟨_, rfl⟩
  have hp1 : P1.length = 64 := by rw [← hP1]; exact Sha.pad_len s 0x36
  have hp2 : P2.length = 64 := by rw [← hP2]; exact Sha.pad_len s 0x5c
  have hg1 : ∀ j, j < 64 → P1.getD j 0 = (Sha.keyB s).getD j 0 ^^^ 54 := by intro j hj; rw [← hP1]; simp [Sha.pad, hkb, hj]
  have hg2 : ∀ j, j < 64 → P2.getD j 0 = (Sha.keyB s).getD j 0 ^^^ 92 := by intro j hj; rw [← hP2]; simp [Sha.pad, hkb, hj]
  obtain ⟨Z, hZ⟩ : ∃ Z, List.replicate 64 (0 : UInt8) = Z := ⟨_, rfl⟩
  have hZl : Z.length = 64 := by rw [← hZ, List.length_replicate]
  refine Rets.of (n := 75) (vs := [_, _]) Try.func16 rfl rfl rfl ?_
  refine TC.seq ?_
  refine TC.region ?_
  refine TL.alloc ze30 rfl (fun w4 hb4 hc4 hz4 => ?_)
  refine TL.done ?_
  refine Thn.go ?_
  refine TC.seq ?_
  refine TC.region ?_
  refine TL.alloc ze59 rfl (fun w5 hb5 hc5 hz5 => ?_)
  have hb5' : Has w5 w4.heap.size (((Sha.keyT s).take 0 ++ Z.drop 0).map u8).toArray 59 (0, 0) := by rw [List.take_zero, List.nil_append, List.drop_zero, ← hZ, ← zeros]; exact hb5
  refine TL.done ?_
  refine Thn.go ?_
  refine TC.cut0 ([(1, .slice ab l.length cb), (4, .pointer (some ⟨w.heap.size, 0, none⟩)), (5, .pointer (some ⟨w4.heap.size, 0, none⟩))]) (fun w' => Has w' w4.heap.size ((Sha.keyB s).map u8).toArray 59 (0, 0) ∧ Ch [w4.heap.size] w5 w') (fun K1 hK1 => ?_) (fun w' hH => ?_)
  ·
    refine TC.seq ?_
    refine TC.region ?_
    refine TL.move rfl rfl ?_
    refine TL.lenSlice Try.underlying22 rfl rfl ?_
    refine TL.gtr rfl rfl rfl ?_
    refine TL.done ?_
    refine Thn.go ?_
    refine TC.condP rfl (fun h2 => ?_) (fun h2 => ?_)
    ·
      have hkS : Sha.keyT s = Sha.sum s := if_pos (by omega)
      refine TC.seq ?_
      refine TC.region ?_
      refine TL.move rfl rfl ?_
      refine TL.call can14 rfl rfl (fn14 _ s (by omega) _ ((ha.ch0 hc4).ch0 hc5)) (fun v18 w18 hr18 => ?_)
      obtain ⟨rfl, hc18⟩ := hr18
      refine TL.alloc ze30 rfl (fun w6 hb6 hc6 hz6 => ?_)
      refine TL.store sz30 rfl rfl (by simpa [Value.cells] using hss) hb6 (by simp [Value.cells]) (by simpa [Value.cells] using one_u8 (Sha.sum s)) (.inl rfl) (fun ws1 hbs1 hcs1 hzs1 => ?_)
      replace hbs1 : Has ws1 w18.heap.size ((Sha.keyT s).map u8).toArray 30 (0, 0) := by rw [hkS]; exact hbs1.setAll (by simp [Value.cells, hss])
      have z18 := hc18.size
      have q1 : Ch [] w5 ws1 := (hc18.trans0 hc6).then1 hcs1 z18
      rw [← hkS] at hss
      refine TL.done ?_
      refine Thn.go ?_
      refine TC.seq ?_
      refine TC.region ?_
      refine TL.assign rfl rfl ?_
      refine TL.done ?_
      refine Thn.go ?_
      refine TC.block ?_
      refine TC.loop1 (fun (i : Nat) => [(1, .slice ab l.length cb), (4, .pointer (some ⟨w.heap.size, 0, none⟩)), (5, .pointer (some ⟨w4.heap.size, 0, none⟩)), (6, .pointer (some ⟨w18.heap.size, 0, none⟩)), (7, .int .i64 (i : Int))]) (fun i w' => i ≤ 32 ∧ Has w' w4.heap.size (((Sha.keyT s).take i ++ Z.drop i).map u8).toArray 59 (0, 0) ∧ Ch [w4.heap.size] ws1 w') (fun i => 32 - i) 0 (by repeat (first | exact trivial | refine ⟨rfl, ?_⟩)) (⟨by omega, hb5'.ch0 q1, Ch.refl _ _⟩) (fun i w' hH => ?_)
      obtain ⟨hi, hK, hch⟩ := hH
      refine TC.seq ?_
      refine TC.seq ?_
      refine TC.region ?_
      refine TL.move rfl rfl ?_
      refine TL.lss rfl rfl rfl ?_
      refine TL.done ?_
      refine Thn.go ?_
      refine TC.condP rfl (fun h3 => ?_) (fun h3 => ?_)
      ·
        have hi3 : i < 32 := by omega
        have hlz := Sha.lenZ (z := Z) (m := Sha.keyT s) (j := i) (by omega) (by omega)
        refine TC.skip ?_
        refine Thn.go ?_
        refine TC.seq ?_
        refine TC.block ?_
        refine TC.region ?_
        refine TL.move rfl rfl ?_
        refine TL.move rfl rfl ?_
        refine TL.indexArr (i) ar30 rfl rfl (by first | rfl | omega) (by omega) rfl ?_
        refine TL.load pl5 rfl (by rw [(hbs1.ch hch (by simp; omega)).cell, Nat.zero_add, Nat.mul_one, List.getElem?_toArray, List.getElem?_map, map_getD _ i 0 (by omega)]; rfl) rfl ?_
        refine TL.indexArr (i) ar59 rfl rfl (by first | rfl | omega) (by omega) rfl ?_
        refine TL.store sz5 rfl rfl rfl hK (by simp only [List.size_toArray, List.length_map]; omega) (by simp [Value.cells, Value.oneCell']) (.inl rfl) (fun ws2 hbs2 hcs2 hzs2 => ?_)
        replace hbs2 := hbs2.setOne rfl (by simp only [List.size_toArray, List.length_map]; omega)
        refine TL.done ?_
        refine Blk.go ?_
        refine Thn.go ?_
        refine TC.region ?_
        refine TL.move rfl rfl ?_
        refine TL.add_i64 rfl rfl (by omega) (by omega) rfl ?_
        refine TL.assign rfl rfl ?_
        refine TL.done ?_
        refine Lp.go (i + 1) (by repeat (first | exact trivial | refine ⟨rfl, ?_⟩)) ?_ (by first | omega | (dsimp only; omega))
        refine ⟨by omega, ?_, hch.trans hcs2 (fun _ h _ => h) (fun _ h _ => h)⟩
        rw [← Sha.updZ 0 (by omega) (by omega), List.map_set]
        rw [Nat.zero_add, Nat.mul_one, List.setIfInBounds_toArray] at hbs2
        exact hbs2
      ·
        have hi3 : i = (Sha.keyT s).length := by omega
        rw [hi3, ← hZ, Sha.keyB_fill] at hK
        refine TC.exit ?_
        refine Thn.exit ?_
        refine Lp.exit ?_
        refine Blk.hit ?_
        exact hK1  _ _ (by repeat (first | exact trivial | refine ⟨rfl, ?_⟩)) (⟨hK, (q1.weaken (by simp)).trans hch (fun _ h _ => h) (fun _ h _ => h)⟩)
    ·
      have hkS : Sha.keyT s = s := if_neg (by omega)
      refine TC.seq ?_
      refine TC.region ?_
      refine TL.assign rfl rfl ?_
      refine TL.done ?_
      refine Thn.go ?_
      refine TC.block ?_
      refine TC.loop1 (fun (i : Nat) => [(0, .slice aa s.length ca), (1, .slice ab l.length cb), (4, .pointer (some ⟨w.heap.size, 0, none⟩)), (5, .pointer (some ⟨w4.heap.size, 0, none⟩)), (8, .int .i64 (i : Int))]) (fun i w' => i ≤ s.length ∧ Has w' w4.heap.size (((Sha.keyT s).take i ++ Z.drop i).map u8).toArray 59 (0, 0) ∧ Ch [w4.heap.size] w5 w') (fun i => s.length - i) 0 (by repeat (first | exact trivial | refine ⟨rfl, ?_⟩)) (⟨by omega, hb5', Ch.refl _ _⟩) (fun i w' hH => ?_)
      obtain ⟨hi, hK, hch⟩ := hH
      refine TC.seq ?_
      refine TC.seq ?_
      refine TC.region ?_
      refine TL.move rfl rfl ?_
      refine TL.move rfl rfl ?_
      refine TL.lenSlice Try.underlying22 rfl rfl ?_
      refine TL.lss rfl rfl rfl ?_
      refine TL.done ?_
      refine Thn.go ?_
      refine TC.condP rfl (fun h4 => ?_) (fun h4 => ?_)
      ·
        have hi3 : i < s.length := by omega
        have hlz := Sha.lenZ (z := Z) (m := Sha.keyT s) (j := i) (by rw [hkS]; omega) (by omega)
        have had := ((ha.ch0 hc4).ch0 hc5).ch hch (by intro g hg hm; rcases ha with ⟨_, h0, _⟩ | ⟨b', _, _, _, _, _, e, hh, _⟩; omega; rw [e] at hg; cases hg; simp at hm; have := hh.lt; omega)
        obtain ⟨b, off, rfl⟩ := had.some_ (by omega)
        refine TC.skip ?_
        refine Thn.go ?_
        refine TC.seq ?_
        refine TC.block ?_
        refine TC.region ?_
        refine TL.move rfl rfl ?_
        refine TL.move rfl rfl ?_
        refine TL.move rfl rfl ?_
        refine TL.indexAddr (i) sl22 rfl rfl (by first | rfl | omega) (by omega) rfl ?_
        refine TL.load pl5 rfl (byteIn had hi3) rfl ?_
        refine TL.indexArr (i) ar59 rfl rfl (by first | rfl | omega) (by omega) rfl ?_
        refine TL.store sz5 rfl rfl rfl hK (by simp only [List.size_toArray, List.length_map]; omega) (by simp [Value.cells, Value.oneCell']) (.inl rfl) (fun ws3 hbs3 hcs3 hzs3 => ?_)
        replace hbs3 := hbs3.setOne rfl (by simp only [List.size_toArray, List.length_map]; omega)
        refine TL.done ?_
        refine Blk.go ?_
        refine Thn.go ?_
        refine TC.region ?_
        refine TL.move rfl rfl ?_
        refine TL.add_i64 rfl rfl (by omega) (by omega) rfl ?_
        refine TL.assign rfl rfl ?_
        refine TL.done ?_
        refine Lp.go (i + 1) (by repeat (first | exact trivial | refine ⟨rfl, ?_⟩)) ?_ (by first | omega | (dsimp only; omega))
        refine ⟨by omega, ?_, hch.trans hcs3 (fun _ h _ => h) (fun _ h _ => h)⟩
        rw [← Sha.updZ 0 (by rw [hkS]; omega) (by omega), List.map_set, hkS]
        rw [Nat.zero_add, Nat.mul_one, List.setIfInBounds_toArray, hkS] at hbs3
        exact hbs3
      ·
        have hi3 : i = (Sha.keyT s).length := by rw [hkS]; omega
        rw [hi3, ← hZ, Sha.keyB_fill] at hK
        refine TC.exit ?_
        refine Thn.exit ?_
        refine Lp.exit ?_
        refine Blk.hit ?_
        exact hK1  _ _ (by repeat (first | exact trivial | refine ⟨rfl, ?_⟩)) (⟨hK, hch⟩)
  ·
    obtain ⟨hK, hch⟩ := hH
    have z' := hch.size
    have qa : Ch [] w w' := (hc4.trans0 hc5).then1 hch hc4.size
    have qa4 : Ch [] w4 w' := hc5.then1 hch (Nat.le_refl _)
    have hbb := hb.ch0 qa
    refine TC.seq ?_
    refine TC.region ?_
    refine TL.assign rfl rfl ?_
    refine TL.done ?_
    refine Thn.go ?_
    refine TC.seq ?_
    refine TC.region ?_
    refine TL.assign rfl rfl ?_
    refine TL.done ?_
    refine Thn.go ?_
    refine TC.seq ?_
    refine TC.seq ?_
    refine TC.region ?_
    refine TL.assign rfl rfl ?_
    refine TL.done ?_
    refine Thn.go ?_
    refine TC.block ?_
    refine TC.loop3 (fun (i : Nat) (x y : Value) => [(1, .slice ab l.length cb), (4, .pointer (some ⟨w.heap.size, 0, none⟩)), (5, .pointer (some ⟨w4.heap.size, 0, none⟩)), (9, x), (10, y), (11, .int .i64 (i : Int))]) (fun i x y w6 => i ≤ 64 ∧ Own w6 w'.heap.size 5 1 x i ((P1.take i).map u8) ∧ Own w6 w'.heap.size 5 1 y i ((P2.take i).map u8) ∧ Apart x y ∧ Ch [] w' w6) (fun i _ _ => 64 - i) 0 (.slice none 0 0) (.slice none 0 0) (by repeat (first | exact trivial | refine ⟨rfl, ?_⟩)) (⟨by omega, World.ownsRow_nil _ _ _ _, World.ownsRow_nil _ _ _ _, Apart.nil _, Ch.refl _ _⟩) (fun i x y w6 hH => ?_)
    obtain ⟨hi, hx, hy, hap, hch6⟩ := hH
    have z6 := hch6.size
    refine TC.seq ?_
    refine TC.seq ?_
    refine TC.region ?_
    refine TL.move rfl rfl ?_
    refine TL.lss rfl rfl rfl ?_
    refine TL.done ?_
    refine Thn.go ?_
    refine TC.condP rfl (fun h5 => ?_) (fun h5 => ?_)
    ·
      have hi6 : i < 64 := by omega
      have hKc : ∀ w9, Ch [] w' w9 → w9.cell? ⟨w4.heap.size, 0 + i * 1, none⟩ = some (u8 ((Sha.keyB s).getD i 0)) := by intro w9 h9; rw [(hK.ch0 h9).cell, Nat.zero_add, Nat.mul_one, List.getElem?_toArray, List.getElem?_map, map_getD _ i 0 (by omega)]; rfl
      refine TC.skip ?_
      refine Thn.go ?_
      refine TC.seq ?_
      refine TC.block ?_
      refine TC.seq ?_
      refine TC.region ?_
      refine TL.move rfl rfl ?_
      refine TL.move rfl rfl ?_
      refine TL.indexArr (i) ar59 rfl rfl (by first | rfl | omega) (by omega) rfl ?_
      refine TL.load pl5 rfl (hKc _ hch6) rfl ?_
      refine TL.xor_u8 (b := 54) rfl rfl rfl ?_
      refine TL.buildSlice [.tmp 48] sl22 rfl rfl rfl (by decide) (by simp [Value.cells]) rfl (fun w49 hb49 hc49 hz49 => ?_)
      refine TL.appendD sl22 rfl rfl rfl (hx.ch0 hc49) (News.ofRd Try.underlying22 (Rd.byte _ hb49) (one_byte _)) (by omega) (by omega) (by omega) (fun v50 w50 hv50 hc50 hn50 => ?_)
      have q50 := (hx.ch0 hc49).thenCh (hch6.trans0 hc49) hc50
      have hy50 := (hy.ch0 hc49).ch hc50 hap.notin
      have hap50 := hap.next hn50 (hy.ch0 hc49).lt
      have z50 := hc50.size
      refine TL.assign rfl rfl ?_
      refine TL.done ?_
      refine Thn.go ?_
      refine TC.region ?_
      refine TL.move rfl rfl ?_
      refine TL.move rfl rfl ?_
      refine TL.indexArr (i) ar59 rfl rfl (by first | rfl | omega) (by omega) rfl ?_
      refine TL.load pl5 rfl (hKc _ q50) rfl ?_
      refine TL.xor_u8 (b := 92) rfl rfl rfl ?_
      refine TL.buildSlice [.tmp 55] sl22 rfl rfl rfl (by decide) (by simp [Value.cells]) rfl (fun w56 hb56 hc56 hz56 => ?_)
      refine TL.appendD sl22 rfl rfl rfl (hy50.ch0 hc56) (News.ofRd Try.underlying22 (Rd.byte _ hb56) (one_byte _)) (by omega) (by omega) (by omega) (fun v57 w57 hv57 hc57 hn57 => ?_)
      have q57 := (hy50.ch0 hc56).thenCh (q50.trans0 hc56) hc57
      have hx57 := (hv50.ch0 hc56).ch hc57 hap50.symm.notin
      have hap57 := (hap50.symm.next hn57 (hv50.ch0 hc56).lt).symm
      refine TL.assign rfl rfl ?_
      refine TL.done ?_
      refine Blk.go ?_
      refine Thn.go ?_
      refine TC.region ?_
      refine TL.move rfl rfl ?_
      refine TL.add_i64 rfl rfl (by omega) (by omega) rfl ?_
      refine TL.assign rfl rfl ?_
      refine TL.done ?_
      refine Lp.go ((i + 1, v50, v57)) (by repeat (first | exact trivial | refine ⟨rfl, ?_⟩)) ?_ (by first | omega | (dsimp only; omega))
      have e1 : (P1.take (i + 1)).map u8 = (P1.take i).map u8 ++ [u8 ((Sha.keyB s).getD i 0 ^^^ 54)] := by rw [List.take_add_one, map_getD P1 i 0 (by omega), hg1 i hi6, List.map_append]; rfl
      have e2 : (P2.take (i + 1)).map u8 = (P2.take i).map u8 ++ [u8 ((Sha.keyB s).getD i 0 ^^^ 92)] := by rw [List.take_add_one, map_getD P2 i 0 (by omega), hg2 i hi6, List.map_append]; rfl
      refine ⟨by show i + 1 ≤ 64; omega, ?_, ?_, hap57, q57⟩
      · show Own w57 _ 5 1 v50 (i + 1) ((P1.take (i + 1)).map u8)
        rw [e1]; exact hx57
      · show Own w57 _ 5 1 v57 (i + 1) ((P2.take (i + 1)).map u8)
        rw [e2]; exact hv57
    ·
      have hi6 : i = 64 := by omega
      subst hi6
      rw [List.take_of_length_le (by omega)] at hx hy
      refine TC.exit ?_
      refine Thn.exit ?_
      refine Lp.exit ?_
      refine Blk.hit ?_
      refine Thn.go ?_
      refine TC.seq ?_
      refine TC.region ?_
      refine TL.move rfl rfl ?_
      refine TL.move rfl rfl ?_
      refine TL.append sl22 rfl rfl rfl hx (News.ofRd Try.underlying22 (hbb.ch0 hch6) (one_u8 _)) (by omega) (by omega) (by omega) (fun v60 w60 hv60 hc60 _ => ?_)
      have hy60 := hy.ch hc60 hap.notin
      have q60 := hx.thenCh hch6 hc60
      refine TL.assign rfl rfl ?_
      refine TL.done ?_
      refine Thn.go ?_
      refine TC.seq ?_
      refine TC.region ?_
      refine TL.move rfl rfl ?_
      refine TL.call can14 rfl rfl (fn14 _ (P1 ++ l) (by rw [List.length_append]; omega) w60 (Rd.bytes _ (Rd.ofOwn hv60) (by rw [List.length_append, hp1]) (by rw [List.map_append]))) (fun v62 w62 hr62 => ?_)
      obtain ⟨hv62, hc62⟩ := hr62
      obtain ⟨D, hD⟩ : ∃ D, Sha.sum (P1 ++ l) = D := ⟨_, rfl⟩
      rw [hD] at hv62
      subst hv62
      have hDl : D.length = 32 := by rw [← hD]; exact Sha.sum_len _
      refine TL.alloc ze30 rfl (fun w12 hb12 hc12 hz12 => ?_)
      refine TL.store sz30 rfl rfl (by simpa [Value.cells] using hDl) hb12 (by simp [Value.cells]) (by simpa [Value.cells] using one_u8 D) (.inl rfl) (fun ws4 hbs4 hcs4 hzs4 => ?_)
      replace hbs4 : Has ws4 w62.heap.size (D.map u8).toArray 30 (0, 0) := hbs4.setAll (by simp [Value.cells, hDl])
      have q4 : Ch [] w60 ws4 := (hc62.trans0 hc12).then1 hcs4 hc62.size
      have hy4 := hy60.ch0 q4
      have hny : w62.heap.size ∉ blk y := fun hm => by have := hy60.lt _ (by simpa [blk] using hm); have := hc62.size; omega
      have z4 := q4.size; have z60 := q60.size; have z62 := hc62.size
      refine TL.done ?_
      refine Thn.go ?_
      refine TC.seq ?_
      refine TC.seq ?_
      refine TC.region ?_
      refine TL.assign rfl rfl ?_
      refine TL.done ?_
      refine Thn.go ?_
      refine TC.block ?_
      refine TC.loop2 (fun (i : Nat) (y : Value) => [(4, .pointer (some ⟨w.heap.size, 0, none⟩)), (10, y), (12, .pointer (some ⟨w62.heap.size, 0, none⟩)), (13, .int .i64 (i : Int))]) (fun i y w7 => i ≤ 32 ∧ Own w7 w'.heap.size 5 1 y (64 + i) ((P2 ++ D.take i).map u8) ∧ w62.heap.size ∉ blk y ∧ Has w7 w62.heap.size (D.map u8).toArray 30 (0, 0) ∧ Ch [] w' w7) (fun i _ => 32 - i) 0 y (by repeat (first | exact trivial | refine ⟨rfl, ?_⟩)) (⟨by omega, by simpa using hy4, hny, hbs4, q60.trans0 q4⟩) (fun i y w7 hH => ?_)
      obtain ⟨hi, hy, hny, hDD, hch7⟩ := hH
      have z7 := hch7.size
      refine TC.seq ?_
      refine TC.seq ?_
      refine TC.region ?_
      refine TL.move rfl rfl ?_
      refine TL.lss rfl rfl rfl ?_
      refine TL.done ?_
      refine Thn.go ?_
      refine TC.condP rfl (fun h6 => ?_) (fun h6 => ?_)
      ·
        have hi3 : i < 32 := by omega
        refine TC.skip ?_
        refine Thn.go ?_
        refine TC.seq ?_
        refine TC.block ?_
        refine TC.region ?_
        refine TL.move rfl rfl ?_
        refine TL.move rfl rfl ?_
        refine TL.indexArr (i) ar30 rfl rfl (by first | rfl | omega) (by omega) rfl ?_
        refine TL.load pl5 rfl (by rw [hDD.cell, Nat.zero_add, Nat.mul_one, List.getElem?_toArray, List.getElem?_map, map_getD _ i 0 (by omega)]; rfl) rfl ?_
        refine TL.buildSlice [.tmp 70] sl22 rfl rfl rfl (by decide) (by simp [Value.cells]) rfl (fun w71 hb71 hc71 hz71 => ?_)
        refine TL.appendD sl22 rfl rfl rfl (hy.ch0 hc71) (News.ofRd Try.underlying22 (Rd.byte _ hb71) (one_byte _)) (by omega) (by omega) (by omega) (fun v72 w72 hv72 hc72 hn72 => ?_)
        refine TL.assign rfl rfl ?_
        refine TL.done ?_
        refine Blk.go ?_
        refine Thn.go ?_
        refine TC.region ?_
        refine TL.move rfl rfl ?_
        refine TL.add_i64 rfl rfl (by omega) (by omega) rfl ?_
        refine TL.assign rfl rfl ?_
        refine TL.done ?_
        refine Lp.go ((i + 1, v72)) (by repeat (first | exact trivial | refine ⟨rfl, ?_⟩)) ?_ (by first | omega | (dsimp only; omega))
        have e1 : (P2 ++ D.take (i + 1)).map u8 = (P2 ++ D.take i).map u8 ++ [u8 (D.getD i 0)] := by rw [List.take_add_one, map_getD D i 0 (by omega), ← List.append_assoc, List.map_append]; rfl
        refine ⟨by show i + 1 ≤ 32; omega, ?_, fun hm => ?_, (hDD.ch0 hc71).ch hc72 hny, (hy.ch0 hc71).thenCh (hch7.trans0 hc71) hc72⟩
        · show Own w72 _ 5 1 v72 (64 + (i + 1)) ((P2 ++ D.take (i + 1)).map u8)
          rw [e1]; exact hv72
        · have hm' : v72.ownBlock = some w62.heap.size := by simpa [blk] using hm
          rcases hn72 _ hm' with h | h
          · exact hny (by simpa [blk] using h)
          · have := hDD.lt; omega
      ·
        have hi3 : i = 32 := by omega
        subst hi3
        rw [List.take_of_length_le (by omega)] at hy
        refine TC.exit ?_
        refine Thn.exit ?_
        refine Lp.exit ?_
        refine Blk.hit ?_
        refine Thn.go ?_
        refine TC.seq ?_
        refine TC.region ?_
        refine TL.move rfl rfl ?_
        refine TL.call can14 rfl rfl (fn14 _ (P2 ++ D) (by rw [List.length_append]; omega) w7 (Rd.bytes _ (Rd.ofOwn hy) (by rw [List.length_append, hp2, hDl]) rfl)) (fun v74 w74 hr74 => ?_)
        obtain ⟨hv74, hc74⟩ := hr74
        replace hv74 : v74 = .agg ((Sha.hmac s l).map u8).toArray := by rw [hv74, ← hD, ← hP1, ← hP2]; rfl
        subst hv74
        refine TL.store sz30 rfl rfl (by simpa [Value.cells] using hsl) (hb4.ch0 ((qa4.trans0 hch7).trans0 hc74)) (by simp [Value.cells]) (by simpa [Value.cells] using one_u8 (Sha.hmac s l)) (.inl rfl) (fun ws5 hbs5 hcs5 hzs5 => ?_)
        replace hbs5 : Has ws5 w.heap.size ((Sha.hmac s l).map u8).toArray 30 (0, 0) := hbs5.setAll (by simp [Value.cells, hsl])
        refine TL.done ?_
        refine Thn.go ?_
        refine TC.ret ?_
        refine Ends.cell ((Sha.hmac s l).map u8) (.inl rfl) rfl ag30 rfl (by simpa using hsl) (fun j _ => by rw [hbs5.cell, Nat.zero_add, List.getElem?_toArray]) ?_
        exact ⟨rfl, ((qa.trans0 hch7).trans0 hc74).then1 hcs5 (Nat.le_refl _)⟩

theorem fn17 (a b : Value) (s l : List UInt8) (w : World) (ha : Rd w a 1 s.length (s.map u8)) (hb : Rd w b 1 l.length (l.map u8)) : Rets Try.prog 17 #[a, b] w (fun v w' => v = .bool (decide (s = l)) ∧ Ch [] w w') := by
  obtain ⟨aa, ca, rfl, _⟩ := ha.shape
  obtain ⟨ab, cb, rfl, _⟩ := hb.shape
  have hmm : maxLen = 9223372036854775807 := rfl
  have hsm := ha.nlt
  refine Rets.of (n := 31) (vs := [_, _]) Try.func17 rfl rfl rfl ?_
  refine TC.seq ?_
  refine TC.region ?_
  refine TL.assign rfl rfl ?_
  refine TL.done ?_
  refine Thn.go ?_
  refine TC.seq ?_
  refine TC.seq ?_
  refine TC.region ?_
  refine TL.move rfl rfl ?_
  refine TL.lenSlice Try.underlying22 rfl rfl ?_
  refine TL.move rfl rfl ?_
  refine TL.lenSlice Try.underlying22 rfl rfl ?_
  refine TL.neq rfl rfl rfl ?_
  refine TL.done ?_
  refine Thn.go ?_
  refine TC.condP rfl (fun h1 => ?_) (fun h1 => ?_)
  ·
    refine TC.seq ?_
    refine TC.region ?_
    refine TL.assign rfl rfl ?_
    refine TL.done ?_
    refine Thn.go ?_
    refine TC.ret ?_
    refine Thn.ret ?_
    refine Ends.ret [4] rfl rfl ?_
    exact ⟨by rw [decide_eq_false (p := s = l) (by rintro rfl; omega)]; rfl, Ch.refl _ _⟩
  ·
    have hsl : s.length = l.length := by omega
    refine TC.skip ?_
    refine Thn.go ?_
    refine TC.seq ?_
    refine TC.region ?_
    refine TL.assign rfl rfl ?_
    refine TL.done ?_
    refine Thn.go ?_
    refine TC.seq ?_
    refine TC.seq ?_
    refine TC.region ?_
    refine TL.move rfl rfl ?_
    refine TL.lenSlice Try.underlying22 rfl rfl ?_
    refine TL.move rfl rfl ?_
    refine TL.done ?_
    refine Thn.go ?_
    refine TC.block ?_
    refine TC.loop2 (fun (i : Nat) (n : UInt8) => [(0, .slice aa s.length ca), (1, .slice ab l.length cb), (5, u8 n), (13, .int .i64 (s.length : Int)), (14, .int .i64 (i : Int))]) (fun i n w' => i ≤ s.length ∧ n = Sha.parts s l i ∧ Ch [] w w') (fun i _ => s.length - i) 0 0 (by repeat (first | exact trivial | refine ⟨rfl, ?_⟩)) (⟨by omega, rfl, Ch.refl _ _⟩) (fun i n w' hH => ?_)
    obtain ⟨hi, rfl, hch⟩ := hH
    refine TC.seq ?_
    refine TC.region ?_
    refine TL.lss rfl rfl rfl ?_
    refine TL.done ?_
    refine Thn.go ?_
    refine TC.seq ?_
    refine TC.condP rfl (fun h2 => ?_) (fun h2 => ?_)
    ·
      have hi3 : i < s.length := by omega
      obtain ⟨b, off, rfl⟩ := ha.some_ (by omega)
      obtain ⟨b', off', rfl⟩ := hb.some_ (by omega)
      refine TC.skip ?_
      refine Thn.go ?_
      refine TC.seq ?_
      refine TC.block ?_
      refine TC.seq ?_
      refine TC.region ?_
      refine TL.move rfl rfl ?_
      refine TL.assign rfl rfl ?_
      refine TL.done ?_
      refine Thn.go ?_
      refine TC.regionQ (fun w2 => Ch [] w w2) mixed0 (by kernel_rfl) (hch.trans0 (Ch.drew [] _)) ?_
      refine TQ.via rfl rfl rfl rfl (fun w2 hw2 => TL.move rfl rfl (TL.done ⟨rfl, rfl⟩)) ?_
      refine TQ.via rfl rfl rfl rfl (fun w2 hw2 => TL.move rfl rfl (TL.done ⟨rfl, rfl⟩)) ?_
      refine TQ.via rfl rfl rfl rfl (fun w2 hw2 => TL.move rfl rfl (TL.done ⟨rfl, rfl⟩)) ?_
      refine TQ.via rfl rfl rfl rfl (fun w2 hw2 => TL.indexAddr (i) sl22 rfl rfl (by first | rfl | omega) (by omega) rfl (TL.done ⟨rfl, rfl⟩)) ?_
      refine TQ.via rfl rfl rfl rfl (fun w2 hw2 => TL.load pl5 rfl (byteIn (ha.ch0 hw2) hi3) rfl (TL.done ⟨rfl, rfl⟩)) ?_
      refine TQ.via rfl rfl rfl rfl (fun w2 hw2 => TL.move rfl rfl (TL.done ⟨rfl, rfl⟩)) ?_
      refine TQ.via rfl rfl rfl rfl (fun w2 hw2 => TL.move rfl rfl (TL.done ⟨rfl, rfl⟩)) ?_
      refine TQ.via rfl rfl rfl rfl (fun w2 hw2 => TL.indexAddr (i) sl22 rfl rfl (by first | rfl | omega) (by omega) rfl (TL.done ⟨rfl, rfl⟩)) ?_
      refine TQ.via rfl rfl rfl rfl (fun w2 hw2 => TL.load pl5 rfl (byteIn (hb.ch0 hw2) (by omega)) rfl (TL.done ⟨rfl, rfl⟩)) ?_
      refine TQ.via rfl rfl rfl rfl (fun w2 hw2 => TL.xor_u8 rfl rfl rfl (TL.done ⟨rfl, rfl⟩)) ?_
      refine TQ.via rfl rfl rfl rfl (fun w2 hw2 => TL.or_u8 rfl rfl rfl (TL.done ⟨rfl, rfl⟩)) ?_
      refine TQ.via rfl rfl rfl rfl (fun w2 hw2 => TL.assign rfl rfl (TL.done ⟨rfl, rfl⟩)) ?_
      refine TQ.done (fun w2 hw2 => ?_)
      refine Blk.go ?_
      refine Thn.go ?_
      refine TC.region ?_
      refine TL.add_i64 rfl rfl (by omega) (by omega) rfl ?_
      refine TL.move rfl rfl ?_
      refine TL.done ?_
      refine Lp.go ((i + 1, Sha.parts s l (i + 1))) (by repeat (first | exact trivial | refine ⟨rfl, ?_⟩)) ?_ (by first | omega | (dsimp only; omega))
      exact ⟨by show i + 1 ≤ _; omega, rfl, hw2⟩
    ·
      have hi3 : i = s.length := by omega
      subst hi3
      refine TC.exit ?_
      refine Thn.exit ?_
      refine Lp.exit ?_
      refine Blk.hit ?_
      refine Thn.go ?_
      refine TC.seq ?_
      refine TC.region ?_
      refine TL.move rfl rfl ?_
      refine TL.eql rfl rfl rfl ?_
      refine TL.assign rfl rfl ?_
      refine TL.done ?_
      refine Thn.go ?_
      refine TC.ret ?_
      refine Ends.ret [4] rfl rfl ?_
      exact ⟨congrArg Value.bool (decide_eq_decide.2 (by rw [← Sha.parts_all hsl]; constructor; intro h; exact UInt8.toNat.inj (by simpa using h); intro h; rw [h]; rfl)), hch⟩

theorem fn18 (a b : Value) (s l : List UInt8) (w : World) (ha : Rd w a 1 s.length (s.map u8)) (hb : Rd w b 1 l.length (l.map u8)) : Rets Try.prog 18 #[a, b] w (fun v w' => v = .bool (decide (s = l)) ∧ Ch [] w w') := by
  refine Rets.of (n := 10) (vs := [_, _]) Try.func18 rfl rfl rfl ?_
  refine TC.seq ?_
  refine TC.region ?_
  refine TL.assign rfl rfl ?_
  refine TL.done ?_
  refine Thn.go ?_
  refine TC.seq ?_
  refine TC.region ?_
  refine TL.move rfl rfl ?_
  refine TL.bytesToStr Try.underlying22 Try.underlying5 Try.underlying9 rfl (ha) rfl ?_
  refine TL.move rfl rfl ?_
  refine TL.bytesToStr Try.underlying22 Try.underlying5 Try.underlying9 rfl (hb) rfl ?_
  refine TL.eqlStr rfl rfl rfl ?_
  refine TL.assign rfl rfl ?_
  refine TL.done ?_
  refine Thn.go ?_
  refine TC.ret ?_
  refine Ends.ret [4] rfl rfl ?_
  exact ⟨rfl, Ch.refl _ _⟩

theorem eq30 (x y : List UInt8) (hx : x.length = 32) (hy : y.length = 32) (w : World) : (Op.equalIn 10000 30 (.agg (x.map u8).toArray) (.agg (y.map u8).toArray)).run Try.prog w = .ok (decide (x = y)) w :=
  run_equalIn_arr u8 (dep := 9998) Try.underlying30 (by kernel_rfl) (by kernel_rfl) pl5 (fun a b => eq_u8 Try.underlying5 9998 a b) x y hx hy
theorem fn4 (a : Value) (s : List UInt8) (b : Value) (l : List UInt8) (w : World) (ha : Rd w a 1 s.length (s.map u8)) (hb : Rd w b 1 l.length (l.map u8)) : Rets Try.prog 4 #[a, b] w (fun v w' => v = .bool true ∧ Ch [] w w') := by
  obtain ⟨aa, ca, rfl, _⟩ := ha.shape
  obtain ⟨ab, cb, rfl, _⟩ := hb.shape
  refine Rets.of (n := 56) (vs := [_, _]) Try.func4 rfl rfl rfl ?_
  refine TC.seq ?_
  refine TC.region ?_
  refine TL.assign rfl rfl ?_
  refine TL.done ?_
  refine Thn.go ?_
  refine TC.seq ?_
  refine TC.regionBool (d := 15) (p := (5000 < s.length ∨ 5000 < l.length)) (fun K1 hK1 => ?_) ?_
  ·
    refine TL.move rfl rfl ?_
    refine TL.lenSlice Try.underlying22 rfl rfl ?_
    refine TL.gtr rfl rfl rfl ?_
    refine TL.em (fun e10 => ?_) (fun e10 => ?_)
    ·
      refine TL.move rfl rfl ?_
      refine TL.guardNo (d := 11) rfl rfl rfl rfl rfl ?_
      refine TL.guardNo (d := 11) rfl rfl rfl rfl rfl ?_
      refine TL.guardNo (d := 11) rfl rfl rfl rfl rfl ?_
      refine TL.pickT rfl rfl rfl rfl ?_
      refine TL.done ?_
      refine hK1 _ ?_
      refine Le.here rfl (by first | exact decide_eq_true (by omega) | exact decide_eq_false (by omega) | exact decide_eq_decide.2 (by omega)) ?_
      repeat (first | exact Le.refl _ | refine Le.skip rfl ?_)
    ·
      refine TL.move rfl rfl ?_
      refine TL.guardYes (d := 11) rfl rfl rfl ?_
      refine TL.move rfl rfl ?_
      refine TL.guardYes (d := 11) rfl rfl rfl ?_
      refine TL.lenSlice Try.underlying22 rfl rfl ?_
      refine TL.guardYes (d := 11) rfl rfl rfl ?_
      refine TL.gtr rfl rfl rfl ?_
      refine TL.pickF rfl rfl rfl rfl ?_
      refine TL.done ?_
      refine hK1 _ ?_
      refine Le.here rfl (by first | exact decide_eq_true (by omega) | exact decide_eq_false (by omega) | exact decide_eq_decide.2 (by omega)) ?_
      repeat (first | exact Le.refl _ | refine Le.skip rfl ?_)
  refine TC.condP rfl (fun h3 => ?_) (fun h3 => ?_)
  ·
    refine TC.seq ?_
    refine TC.region ?_
    refine TL.assign rfl rfl ?_
    refine TL.done ?_
    refine Thn.go ?_
    refine TC.ret ?_
    refine Thn.ret ?_
    refine Ends.ret [4] rfl rfl ?_
    exact ⟨rfl, Ch.refl _ _⟩
  ·
    refine TC.skip ?_
    refine Thn.go ?_
    refine TC.seq ?_
    refine TC.region ?_
    refine TL.move rfl rfl ?_
    refine TL.bytesToStr Try.underlying22 Try.underlying5 Try.underlying9 rfl (ha) rfl ?_
    refine TL.assign rfl rfl ?_
    refine TL.done ?_
    refine Thn.go ?_
    refine TC.seq ?_
    refine TC.region ?_
    refine TL.move rfl rfl ?_
    refine TL.bytesToStr Try.underlying22 Try.underlying5 Try.underlying9 rfl (hb) rfl ?_
    refine TL.assign rfl rfl ?_
    refine TL.done ?_
    refine Thn.go ?_
    refine TC.seq ?_
    refine TC.region ?_
    refine TL.move rfl rfl ?_
    refine TL.call can13 rfl rfl (fn13 _ l (by omega) w hb) (fun v21 w21 hr21 => ?_)
    obtain ⟨rfl, hc21⟩ := hr21
    refine TL.move rfl rfl ?_
    refine TL.call can14 rfl rfl (fn14 _ l (by omega) w21 (hb.ch0 hc21)) (fun v23 w23 hr23 => ?_)
    obtain ⟨rfl, hc23⟩ := hr23
    have q23 := hc21.trans0 hc23
    refine TL.eqlAgg gd30 (eq30 _ _ (Sha.sum_len l) (Sha.sum_len l) _) rfl rfl rfl ?_
    refine TL.yes (rfl) ?_
    refine TL.move rfl rfl ?_
    refine TL.guardYes (d := 25) rfl rfl rfl ?_
    refine TL.move rfl rfl ?_
    refine TL.guardYes (d := 25) rfl rfl rfl ?_
    refine TL.move rfl rfl ?_
    refine TL.guardYes (d := 25) rfl rfl rfl ?_
    refine TL.call can15 rfl rfl (fn15 _ _ s l (by omega) (by omega) w23 (ha.ch0 q23) (hb.ch0 q23)) (fun v28 w28 hr28 => ?_)
    obtain ⟨rfl, hc28⟩ := hr28
    have q28 := q23.trans0 hc28
    refine TL.guardYes (d := 25) rfl rfl rfl ?_
    refine TL.move rfl rfl ?_
    refine TL.guardYes (d := 25) rfl rfl rfl ?_
    refine TL.move rfl rfl ?_
    refine TL.guardYes (d := 25) rfl rfl rfl ?_
    refine TL.call can16 rfl rfl (fn16 _ _ s l (by omega) (by omega) w28 (ha.ch0 q28) (hb.ch0 q28)) (fun v31 w31 hr31 => ?_)
    obtain ⟨rfl, hc31⟩ := hr31
    have q31 := q28.trans0 hc31
    refine TL.guardYes (d := 25) rfl rfl rfl ?_
    refine TL.eqlAgg gd30 (eq30 _ _ (Sha.hmac_len s l) (Sha.hmac_len s l) _) rfl rfl rfl ?_
    refine TL.yes (rfl) ?_
    refine TL.pickT rfl rfl rfl rfl ?_
    refine TL.assign rfl rfl ?_
    refine TL.done ?_
    refine Thn.go ?_
    refine TC.seq ?_
    refine TC.region ?_
    refine TL.move rfl rfl ?_
    refine TL.move rfl rfl ?_
    refine TL.guardYes (d := 35) rfl rfl rfl ?_
    refine TL.move rfl rfl ?_
    refine TL.guardYes (d := 35) rfl rfl rfl ?_
    refine TL.move rfl rfl ?_
    refine TL.guardYes (d := 35) rfl rfl rfl ?_
    refine TL.call can17 rfl rfl (fn17 _ _ s l w31 (ha.ch0 q31) (hb.ch0 q31)) (fun v38 w38 hr38 => ?_)
    obtain ⟨rfl, hc38⟩ := hr38
    have q38 := q31.trans0 hc38
    refine TL.guardYes (d := 35) rfl rfl rfl ?_
    refine TL.move rfl rfl ?_
    refine TL.guardYes (d := 35) rfl rfl rfl ?_
    refine TL.move rfl rfl ?_
    refine TL.guardYes (d := 35) rfl rfl rfl ?_
    refine TL.call can18 rfl rfl (fn18 _ _ s l w38 (ha.ch0 q38) (hb.ch0 q38)) (fun v41 w41 hr41 => ?_)
    obtain ⟨rfl, hc41⟩ := hr41
    have q41 := q38.trans0 hc41
    refine TL.guardYes (d := 35) rfl rfl rfl ?_
    refine TL.eqlBool Try.underlying4 rfl rfl rfl ?_
    refine TL.yes (rfl) ?_
    refine TL.pickT rfl rfl rfl rfl ?_
    refine TL.move rfl rfl ?_
    refine TL.guardYes (d := 44) rfl rfl rfl ?_
    refine TL.move rfl rfl ?_
    refine TL.guardYes (d := 44) rfl rfl rfl ?_
    refine TL.bytesToStr Try.underlying22 Try.underlying5 Try.underlying9 rfl (ha.ch0 q41) rfl ?_
    refine TL.guardYes (d := 44) rfl rfl rfl ?_
    refine TL.move rfl rfl ?_
    refine TL.guardYes (d := 44) rfl rfl rfl ?_
    refine TL.eqlStr rfl rfl rfl ?_
    refine TL.yes (rfl) ?_
    refine TL.pickT rfl rfl rfl rfl ?_
    refine TL.move rfl rfl ?_
    refine TL.guardYes (d := 50) rfl rfl rfl ?_
    refine TL.move rfl rfl ?_
    refine TL.guardYes (d := 50) rfl rfl rfl ?_
    refine TL.bytesToStr Try.underlying22 Try.underlying5 Try.underlying9 rfl (hb.ch0 q41) rfl ?_
    refine TL.guardYes (d := 50) rfl rfl rfl ?_
    refine TL.move rfl rfl ?_
    refine TL.guardYes (d := 50) rfl rfl rfl ?_
    refine TL.eqlStr rfl rfl rfl ?_
    refine TL.yes (rfl) ?_
    refine TL.pickT rfl rfl rfl rfl ?_
    refine TL.assign rfl rfl ?_
    refine TL.done ?_
    refine Thn.go ?_
    refine TC.ret ?_
    refine Ends.ret [4] rfl rfl ?_
    exact ⟨rfl, q41⟩

