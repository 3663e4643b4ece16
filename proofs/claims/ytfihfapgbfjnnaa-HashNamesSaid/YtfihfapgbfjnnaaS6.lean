/-
  Walks through the given program: each theorem fnN says what the call of function N of the translation hands back, for all arguments that its premises describe, and that nothing that was there has turned.
-/
import Derived.Test.YtfihfapgbfjnnaaS5
import Derived.Test.YtfihfapgbfjnnaaSeal
namespace Go.Proofs.Ytfihfapgbfjnnaa
open Go.Lane
theorem ag60 : AggT Try.prog 60 64 := ⟨⟨_, Try.underlying60, rfl⟩, by kernel_rfl⟩
theorem ar60 : ArrT Try.prog 60 64 5 1 := ⟨Try.underlying60, by kernel_rfl, by decide⟩
theorem can13 : Callable Try.prog 13 := ⟨Try.f13, Try.func13, by kernel_rfl, rfl⟩
theorem can27 : Callable Try.prog 27 := ⟨Try.f27, Try.func27, by kernel_rfl, rfl⟩
theorem can32 : Callable Try.prog 32 := ⟨Try.f32, Try.func32, by kernel_rfl, rfl⟩
theorem can33 : Callable Try.prog 33 := ⟨Try.f33, Try.func33, by kernel_rfl, rfl⟩
theorem sz60 : (Try.prog.info? 60).map (·.size) = some 64 := by kernel_rfl
theorem ze60 : ZeroT Try.prog 60 (.agg (Array.replicate 64 (.int .u8 0))) := by unfold ZeroT; kernel_rfl

theorem fn13 (a : Value) (l : List UInt8) (hl : l.length ≤ 1000000000000) (w : World) (ha : Rd w a 1 l.length (l.map u8)) : Rets Try.prog 13 #[a] w (fun v w' => v = .agg ((Sha.sum l).map u8).toArray ∧ Ch [] w w') := by
  obtain ⟨ad, c, rfl, _⟩ := ha.shape
  have hsl := Sha.sum_len l
  refine Rets.of (n := 6) (vs := [_]) Try.func13 rfl rfl rfl ?_
  refine TC.seq ?_
  refine TC.region ?_
  refine TL.alloc ze30 rfl (fun w2 hb2 hc2 hz2 => ?_)
  refine TL.done ?_
  refine Thn.go ?_
  refine TC.seq ?_
  refine TC.region ?_
  refine TL.move rfl rfl ?_
  refine TL.buildSlice [.tmp 3] sl64 rfl rfl rfl (by decide) (by simp [Value.cells]) rfl (fun w4 hb4 hc4 hz4 => ?_)
  refine TL.call can27 rfl rfl (fn27 _ [(.slice ad l.length c, l)] l (by simp) hl (by simp) w4 (Rd.ofFlat (sz := 1) (m := 1) hb4 (by simp [Value.cells]) rfl (by decide)) (by intro p hp; simp at hp; subst hp; exact (ha.ch0 hc2).ch0 hc4)) (fun v5 w5 hr5 => ?_)
  obtain ⟨rfl, hc5⟩ := hr5
  refine TL.store sz30 rfl rfl (by simpa [Value.cells] using hsl) ((hb2.ch0 hc4).ch0 hc5) (by simp [Value.cells]) (by simpa [Value.cells] using one_u8 (Sha.sum l)) (.inl rfl) (fun ws1 hbs1 hcs1 hzs1 => ?_)
  replace hbs1 : Has ws1 w.heap.size ((Sha.sum l).map u8).toArray 30 (0, 0) := hbs1.setAll (by simp [Value.cells, hsl])
  refine TL.done ?_
  refine Thn.go ?_
  refine TC.ret ?_
  refine Ends.cell ((Sha.sum l).map u8) (.inl rfl) rfl ag30 rfl (by simpa using hsl) (fun j _ => by rw [hbs1.cell, Nat.zero_add, List.getElem?_toArray]) ?_
  exact ⟨rfl, ((hc2.trans0 hc4).trans0 hc5).then1 hcs1 (Nat.le_refl _)⟩

theorem fn32 (a : Value) (s : List UInt8) (hl : s.length ≤ 1000000000000) (w : World) (ha : Rd w a 1 s.length (s.map u8)) : Rets Try.prog 32 #[a] w (fun v w' => v = .agg ((Sha.keyB s).map u8).toArray ∧ Ch [] w w') := by
  obtain ⟨ad, c, rfl, _⟩ := ha.shape
  have hsl := Sha.sum_len s
  have hkt := Sha.keyT_len s
  have hkb := Sha.keyB_len s
  refine Rets.of (n := 14) (vs := [_]) Try.func32 rfl rfl rfl ?_
  refine TC.seq ?_
  refine TC.region ?_
  refine TL.alloc ze60 rfl (fun w2 hb2 hc2 hz2 => ?_)
  refine TL.done ?_
  refine Thn.go ?_
  refine TC.cut1 (fun (v : Value) => [(2, .pointer (some ⟨w.heap.size, 0, none⟩)), (0, v)]) (fun v w' => Rd w' v 1 (Sha.keyT s).length ((Sha.keyT s).map u8) ∧ Ch [] w2 w') (fun K1 hK1 => ?_) (fun v w' hH => ?_)
  ·
    refine TC.seq ?_
    refine TC.region ?_
    refine TL.move rfl rfl ?_
    refine TL.lenSlice Try.underlying22 rfl rfl ?_
    refine TL.gtr rfl rfl rfl ?_
    refine TL.done ?_
    refine Thn.go ?_
    refine TC.condP rfl (fun h2 => ?_) (fun h2 => ?_)
    ·
      refine TC.seq ?_
      refine TC.region ?_
      refine TL.move rfl rfl ?_
      refine TL.call can13 rfl rfl (fn13 _ s hl _ (ha.ch0 hc2)) (fun v8 w8 hr8 => ?_)
      obtain ⟨rfl, hc8⟩ := hr8
      refine TL.alloc ze30 rfl (fun w3 hb3 hc3 hz3 => ?_)
      refine TL.store sz30 rfl rfl (by simpa [Value.cells] using hsl) hb3 (by simp [Value.cells]) (by simpa [Value.cells] using one_u8 (Sha.sum s)) (.inl rfl) (fun ws1 hbs1 hcs1 hzs1 => ?_)
      replace hbs1 : Has ws1 w8.heap.size ((Sha.sum s).map u8).toArray 30 (0, 0) := hbs1.setAll (by simp [Value.cells, hsl])
      have e : Sha.keyT s = Sha.sum s := if_pos (by omega)
      refine TL.done ?_
      refine Thn.go ?_
      refine TC.region ?_
      refine TL.sliceArr ar30 rfl rfl ?_
      refine TL.assign rfl rfl ?_
      refine TL.done ?_
      exact hK1 (.slice (some ⟨w8.heap.size, 0, none⟩) 32 32) _ _ (by repeat (first | exact trivial | refine ⟨rfl, ?_⟩)) (⟨by rw [e]; exact Rd.bytes _ (Rd.ofRow (m := 32) hbs1 (by simp [hsl]) (by decide)) hsl.symm rfl, (hc8.trans0 hc3).then1 hcs1 hc8.size⟩)
    ·
      have e : Sha.keyT s = s := if_neg (by omega)
      refine TC.skip ?_
      exact hK1 (.slice ad s.length c) _ _ (by repeat (first | exact trivial | refine ⟨rfl, ?_⟩)) (⟨by rw [e]; exact ha.ch0 hc2, Ch.refl _ _⟩)
  ·
    obtain ⟨hR, hch⟩ := hH
    have hb2' : Has w' w.heap.size ((List.replicate 64 (0 : UInt8)).map u8).toArray 60 (0, 0) := by rw [← zeros]; exact hb2.ch0 hch
    refine TC.seq ?_
    refine TC.region ?_
    refine TL.sliceArr ar60 rfl rfl ?_
    refine TL.move rfl rfl ?_
    refine TL.copy1 Try.underlying22 sz5 rfl rfl rfl hR (by omega) hb2' (by simp only [List.size_toArray, List.length_map, List.length_replicate]; omega) (one_u8 _) (fun w12 hb12 hc12 hz12 => ?_)
    rw [spl_head _ _ (by simp only [List.length_map, List.length_replicate]; omega), List.length_map, ← List.map_drop, ← List.map_append, List.drop_replicate] at hb12
    replace hb12 : Has w12 w.heap.size ((Sha.keyB s).map u8).toArray 60 (0, 0) := hb12
    refine TL.done ?_
    refine Thn.go ?_
    refine TC.seq ?_
    refine TC.region ?_
    refine TL.loadAgg ((Sha.keyB s).map u8) ag60 rfl (by simpa using hkb) (fun j _ => by rw [hb12.cell, Nat.zero_add, List.getElem?_toArray]) rfl ?_
    refine TL.store sz60 rfl rfl (by simpa [Value.cells] using hkb) hb12 (by simp [hkb]) (by simpa [Value.cells] using one_u8 (Sha.keyB s)) (.inl rfl) (fun ws2 hbs2 hcs2 hzs2 => ?_)
    replace hbs2 : Has ws2 w.heap.size ((Sha.keyB s).map u8).toArray 60 (0, 0) := hbs2.setAll (by simp [Value.cells, hkb])
    refine TL.done ?_
    refine Thn.go ?_
    refine TC.ret ?_
    refine Ends.cell ((Sha.keyB s).map u8) (.inl rfl) rfl ag60 rfl (by simpa using hkb) (fun j _ => by rw [hbs2.cell, Nat.zero_add, List.getElem?_toArray]) ?_
    exact ⟨rfl, ((hc2.trans0 hch).then1 hc12 (Nat.le_refl _)).then1 hcs2 (Nat.le_refl _)⟩

theorem fn33 (k : List UInt8) (hk : k.length = 64) (x : UInt8) (w : World) : Rets Try.prog 33 #[.agg (k.map u8).toArray, u8 x] w (fun v w' => Rd w' v 1 64 ((k.map (· ^^^ x)).map u8) ∧ Ch [] w w') := by
  obtain ⟨m, hm⟩ : ∃ m, k.map (· ^^^ x) = m := ⟨_, rfl⟩
  have hml : m.length = 64 := by rw [← hm, List.length_map, hk]
  have hmg : ∀ j, j < 64 → m.getD j 0 = k.getD j 0 ^^^ x := by intro j hj; subst hm; simp [hk, hj]
  rw [hm]
  refine Rets.of (n := 17) (vs := [_, _]) Try.func33 rfl rfl rfl ?_
  refine TC.seq ?_
  refine TC.region ?_
  refine TL.box rfl rfl (fun w2 hb2 hc2 hz2 => ?_)
  refine TL.assign rfl rfl ?_
  refine TL.done ?_
  refine Thn.go ?_
  refine TC.seq ?_
  refine TC.seq ?_
  refine TC.region ?_
  refine TL.move rfl rfl ?_
  refine TL.done ?_
  refine Thn.go ?_
  refine TC.block ?_
  refine TC.loop1 (fun (i : Nat) => [(1, u8 x), (2, .pointer (some ⟨w.heap.size, 0, none⟩)), (6, .int .i64 (i : Int))]) (fun i w' => i ≤ 64 ∧ Has w' w.heap.size ((m.take i ++ k.drop i).map u8).toArray 60 (0, 0) ∧ Ch [] w w') (fun i => 64 - i) 0 (by repeat (first | exact trivial | refine ⟨rfl, ?_⟩)) (⟨by omega, by simpa [Value.cells] using hb2, hc2⟩) (fun i w' hH => ?_)
  obtain ⟨hi, hB, hch⟩ := hH
  refine TC.seq ?_
  refine TC.region ?_
  refine TL.lss rfl rfl rfl ?_
  refine TL.done ?_
  refine Thn.go ?_
  refine TC.seq ?_
  refine TC.condP rfl (fun h1 => ?_) (fun h1 => ?_)
  ·
    have hi6 : i < 64 := by omega
    have hlz := Sha.lenZ (z := k) (m := m) (j := i) (by omega) (by omega)
    refine TC.skip ?_
    refine Thn.go ?_
    refine TC.seq ?_
    refine TC.block ?_
    refine TC.seq ?_
    refine TC.region ?_
    refine TL.move rfl rfl ?_
    refine TL.assign rfl rfl ?_
    refine TL.done ?_
    refine Thn.go ?_
    refine TC.region ?_
    refine TL.move rfl rfl ?_
    refine TL.indexArr (i) ar60 rfl rfl (by first | rfl | omega) (by omega) rfl ?_
    refine TL.load pl5 rfl (by rw [hB.cell, Nat.zero_add, Nat.mul_one, List.getElem?_toArray, List.getElem?_map, Sha.midZ 0 (by omega) (by omega)]; rfl) rfl ?_
    refine TL.move rfl rfl ?_
    refine TL.xor_u8 rfl rfl rfl ?_
    refine TL.indexArr (i) ar60 rfl rfl (by first | rfl | omega) (by omega) rfl ?_
    refine TL.store sz5 rfl rfl rfl hB (by simp only [List.size_toArray, List.length_map]; omega) (by simp [Value.cells, Value.oneCell']) (.inl rfl) (fun ws1 hbs1 hcs1 hzs1 => ?_)
    replace hbs1 := hbs1.setOne rfl (by simp only [List.size_toArray, List.length_map]; omega)
    refine TL.done ?_
    refine Blk.go ?_
    refine Thn.go ?_
    refine TC.region ?_
    refine TL.add_i64 rfl rfl (by omega) (by omega) rfl ?_
    refine TL.move rfl rfl ?_
    refine TL.done ?_
    refine Lp.go (i + 1) (by repeat (first | exact trivial | refine ⟨rfl, ?_⟩)) ?_ (by first | omega | (dsimp only; omega))
    refine ⟨by omega, ?_, hch.then1 hcs1 (Nat.le_refl _)⟩
    rw [← Sha.updZ 0 (by omega) (by omega), List.map_set, hmg i hi6]
    rw [Nat.zero_add, Nat.mul_one, List.setIfInBounds_toArray] at hbs1
    exact hbs1
  ·
    have hi6 : i = 64 := by omega
    subst hi6
    rw [List.take_of_length_le (by omega), List.drop_eq_nil_of_le (by omega), List.append_nil] at hB
    refine TC.exit ?_
    refine Thn.exit ?_
    refine Lp.exit ?_
    refine Blk.hit ?_
    refine Thn.go ?_
    refine TC.seq ?_
    refine TC.region ?_
    refine TL.sliceArr ar60 rfl rfl ?_
    refine TL.assign rfl rfl ?_
    refine TL.done ?_
    refine Thn.go ?_
    refine TC.ret ?_
    refine Ends.ret [4] rfl rfl ?_
    exact ⟨Rd.ofRow (m := 64) hB (by simp [hml]) (by decide), hch⟩

theorem fn15 (a b : Value) (s l : List UInt8) (hs : s.length ≤ 100000000000) (hl : l.length ≤ 100000000000) (w : World) (ha : Rd w a 1 s.length (s.map u8)) (hb : Rd w b 1 l.length (l.map u8)) : Rets Try.prog 15 #[a, b] w (fun v w' => v = .agg ((Sha.hmac s l).map u8).toArray ∧ Ch [] w w') := by
  obtain ⟨aa, ca, rfl, _⟩ := ha.shape
  obtain ⟨ab, cb, rfl, _⟩ := hb.shape
  have hkb := Sha.keyB_len s
  have hsl := Sha.hmac_len s l
  have hp1 := Sha.pad_len s 0x36
  have hp2 := Sha.pad_len s 0x5c
  refine Rets.of (n := 19) (vs := [_, _]) Try.func15 rfl rfl rfl ?_
  refine TC.seq ?_
  refine TC.region ?_
  refine TL.alloc ze30 rfl (fun w4 hb4 hc4 hz4 => ?_)
  refine TL.done ?_
  refine Thn.go ?_
  refine TC.seq ?_
  refine TC.region ?_
  refine TL.move rfl rfl ?_
  refine TL.call can32 rfl rfl (fn32 _ s (by omega) _ (ha.ch0 hc4)) (fun v8 w8 hr8 => ?_)
  obtain ⟨rfl, hc8⟩ := hr8
  refine TL.alloc ze60 rfl (fun w5 hb5 hc5 hz5 => ?_)
  refine TL.store sz60 rfl rfl (by simpa [Value.cells] using hkb) hb5 (by simp [Value.cells]) (by simpa [Value.cells] using one_u8 (Sha.keyB s)) (.inl rfl) (fun ws1 hbs1 hcs1 hzs1 => ?_)
  replace hbs1 : Has ws1 w8.heap.size ((Sha.keyB s).map u8).toArray 60 (0, 0) := hbs1.setAll (by simp [Value.cells, hkb])
  have z8 := hc8.size
  have q1 : Ch [] w4 ws1 := (hc8.trans0 hc5).then1 hcs1 z8
  refine TL.done ?_
  refine Thn.go ?_
  refine TC.seq ?_
  refine TC.region ?_
  refine TL.loadAgg ((Sha.keyB s).map u8) ag60 rfl (by simpa using hkb) (fun j _ => by rw [hbs1.cell, Nat.zero_add, List.getElem?_toArray]) rfl ?_
  refine TL.call can33 rfl rfl (fn33 _ hkb 0x36 ws1) (fun v10 w10 hr10 => ?_)
  obtain ⟨hR10, hc10⟩ := hr10
  obtain ⟨a10, c10, rfl, _⟩ := hR10.shape
  refine TL.move rfl rfl ?_
  refine TL.buildSlice [.tmp 10, .tmp 11] sl64 rfl rfl rfl (by decide) (by simp [Value.cells]) rfl (fun w12 hb12 hc12 hz12 => ?_)
  refine TL.call can27 rfl rfl (fn27 _ [(.slice a10 64 c10, Sha.pad s 0x36), (.slice ab l.length cb, l)] (Sha.pad s 0x36 ++ l) (by simp) (by rw [List.length_append, hp1]; omega) (by simp) w12 (Rd.ofFlat (sz := 1) (m := 2) hb12 (by simp [Value.cells]) rfl (by decide)) (by intro p hp; simp at hp; rcases hp with rfl | rfl; exact Rd.bytes _ (hR10.ch0 hc12) hp1.symm rfl; exact (((hb.ch0 hc4).ch0 q1).ch0 hc10).ch0 hc12)) (fun v13 w13 hr13 => ?_)
  obtain ⟨rfl, hc13⟩ := hr13
  have hsi := Sha.sum_len (Sha.pad s 0x36 ++ l)
  refine TL.alloc ze30 rfl (fun w6 hb6 hc6 hz6 => ?_)
  refine TL.store sz30 rfl rfl (by simpa [Value.cells] using hsi) hb6 (by simp [Value.cells]) (by simpa [Value.cells] using one_u8 (Sha.sum (Sha.pad s 0x36 ++ l))) (.inl rfl) (fun ws2 hbs2 hcs2 hzs2 => ?_)
  replace hbs2 : Has ws2 w13.heap.size ((Sha.sum (Sha.pad s 0x36 ++ l)).map u8).toArray 30 (0, 0) := hbs2.setAll (by simp [Value.cells, hsi])
  have z13 := hc13.size; have z12 := hc12.size; have z10 := hc10.size
  have q2 : Ch [] ws1 ws2 := (((hc10.trans0 hc12).trans0 hc13).trans0 hc6).then1 hcs2 (by omega)
  have hK := hbs1.ch0 q2
  have zs2 := q2.size
  refine TL.done ?_
  refine Thn.go ?_
  refine TC.seq ?_
  refine TC.regionH (fun w9 => Ch [w.heap.size] ws2 w9) mixed0 ?_
  have hS : (fun w9 => Ch [w.heap.size] ws2 w9) _ := Ch.drew _ ws2
  refine TH.take (i := 0) rfl rfl rfl rfl rfl (by kernel_rfl) (by kernel_rfl) (by kernel_rfl) hS (fun w2 hw2 => TL.loadAgg ((Sha.keyB s).map u8) ag60 rfl (by simpa using hkb) (fun j _ => by rw [(hK.ch hw2 (by simp; omega)).cell, Nat.zero_add, List.getElem?_toArray]) rfl (TL.done ⟨rfl, rfl⟩)) ?_
  refine TH.take (i := 2) rfl rfl rfl rfl rfl (by kernel_rfl) (by kernel_rfl) (by kernel_rfl) hS (fun w2 hw2 => TL.sliceArr ar30 rfl rfl (TL.done ⟨rfl, rfl⟩)) ?_
  refine TH.one (i := 1) (by kernel_rfl) rfl rfl ?_
  refine TL.call can33 rfl rfl (fn33 _ hkb 0x5c ws2.drew) (fun v15 w15 hr15 => ?_)
  obtain ⟨hR15, hc15⟩ := hr15
  obtain ⟨a15, c15, rfl, _⟩ := hR15.shape
  have hS : (fun w9 => Ch [w.heap.size] ws2 w9) _ := hS.trans hc15 (fun _ h _ => h) (by simp)
  refine TL.done ⟨hS, ?_⟩
  refine TH.one (i := 3) (by kernel_rfl) rfl rfl ?_
  refine TL.buildSlice [.tmp 15, .tmp 16] sl64 rfl rfl rfl (by decide) (by simp [Value.cells]) rfl (fun w17 hb17 hc17 hz17 => ?_)
  have hS : (fun w9 => Ch [w.heap.size] ws2 w9) _ := hS.trans hc17 (fun _ h _ => h) (by simp)
  refine TL.done ⟨hS, ?_⟩
  refine TH.one (i := 4) (by kernel_rfl) rfl rfl ?_
  refine TL.call can27 rfl rfl (fn27 _ [(.slice a15 64 c15, Sha.pad s 0x5c), (.slice (some ⟨w13.heap.size, 0, none⟩) 32 32, Sha.sum (Sha.pad s 0x36 ++ l))] (Sha.pad s 0x5c ++ Sha.sum (Sha.pad s 0x36 ++ l)) (by simp) (by rw [List.length_append, hp2, hsi]; omega) (by simp) w17 (Rd.ofFlat (sz := 1) (m := 2) hb17 (by simp [Value.cells]) rfl (by decide)) (by intro p hp; simp at hp; rcases hp with rfl | rfl; exact Rd.bytes _ (hR15.ch0 hc17) hp2.symm rfl; exact Rd.bytes _ (Rd.ofRow (m := 32) (((hbs2.ch0 (Ch.drew [] ws2)).ch0 hc15).ch0 hc17) (by simp [hsi]) (by decide)) hsi.symm rfl)) (fun v18 w18 hr18 => ?_)
  obtain ⟨hv18, hc18⟩ := hr18
  replace hv18 : v18 = .agg ((Sha.hmac s l).map u8).toArray := hv18
  subst hv18
  have q3 : Ch [] ws2 w18 := (((Ch.drew [] ws2).trans0 hc15).trans0 hc17).trans0 hc18
  have q : Ch [] w4 w18 := (q1.trans0 q2).trans0 q3
  have hS : (fun w9 => Ch [w.heap.size] ws2 w9) _ := hS.trans hc18 (fun _ h _ => h) (by simp)
  refine TL.done ⟨hS, ?_⟩
  refine TH.one (i := 5) (by kernel_rfl) rfl rfl ?_
  refine TL.store sz30 rfl rfl (by simpa [Value.cells] using hsl) (hb4.ch0 q) (by simp [Value.cells]) (by simpa [Value.cells] using one_u8 (Sha.hmac s l)) (.inl rfl) (fun ws3 hbs3 hcs3 hzs3 => ?_)
  replace hbs3 : Has ws3 w.heap.size ((Sha.hmac s l).map u8).toArray 30 (0, 0) := hbs3.setAll (by simp [Value.cells, hsl])
  have hS : (fun w9 => Ch [w.heap.size] ws2 w9) _ := hS.trans hcs3 (fun _ h _ => h) (fun _ h _ => h)
  refine TL.done ⟨hS, ?_⟩
  refine TH.done (by kernel_rfl) ?_
  refine Thn.go ?_
  refine TC.ret ?_
  refine Ends.cell ((Sha.hmac s l).map u8) (.inl rfl) rfl ag30 rfl (by simpa using hsl) (fun j _ => by rw [hbs3.cell, Nat.zero_add, List.getElem?_toArray]) ?_
  exact ⟨rfl, ((hc4.trans0 (q1.trans0 q2)).then1 hS (Nat.le_refl _))⟩

