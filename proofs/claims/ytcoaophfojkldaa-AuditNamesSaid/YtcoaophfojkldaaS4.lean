/-
  Walks through the given program: each theorem fnN says what the call of function N of the translation hands back, for all arguments that its premises describe, and that nothing that was there has turned.
-/
import Derived.Test.YtcoaophfojkldaaS3
namespace Go.Proofs.Ytcoaophfojkldaa
open Go.Lane
theorem can56 : Callable Try.prog 56 := ⟨Try.f56, Try.func56, by kernel_rfl, rfl⟩
theorem can57 : Callable Try.prog 57 := ⟨Try.f57, Try.func57, by kernel_rfl, rfl⟩
theorem can58 : Callable Try.prog 58 := ⟨Try.f58, Try.func58, by kernel_rfl, rfl⟩
theorem can59 : Callable Try.prog 59 := ⟨Try.f59, Try.func59, by kernel_rfl, rfl⟩
theorem ag48 : AggT Try.prog 48 32 := ⟨⟨_, Try.underlying48, rfl⟩, by kernel_rfl⟩
theorem ar48 : ArrT Try.prog 48 32 5 1 := ⟨Try.underlying48, by kernel_rfl, by decide⟩
theorem sz48 : (Try.prog.info? 48).map (·.size) = some 32 := by kernel_rfl
theorem ze48 : ZeroT Try.prog 48 (.agg (Array.replicate 32 (.int .u8 0))) := by unfold ZeroT; kernel_rfl

theorem fn58 (a : Value) (l : List UInt8) (hl : l.length ≤ 1099511627776) (w : World) (ha : Rd w a 1 l.length (l.map u8)) : Rets Try.prog 58 #[a] w (fun v w' => Own w' w.heap.size 5 1 v (Sha.longer l).length ((Sha.longer l).map u8) ∧ Ch [] w w') := by
  obtain ⟨ad, c, rfl, _⟩ := ha.shape
  have hmm : maxLen = 9223372036854775807 := rfl
  have hp := Sha.padN_lt l.length
  refine Rets.of (n := 37) (vs := [_]) Try.func58 rfl rfl rfl ?_
  refine TC.seq ?_
  refine TC.region ?_
  refine TL.assign rfl rfl ?_
  refine TL.done ?_
  refine Thn.go ?_
  refine TC.seq ?_
  refine TC.region ?_
  refine TL.assign rfl rfl ?_
  refine TL.done ?_
  refine Thn.go ?_
  refine TC.seq ?_
  refine TC.region ?_
  refine TL.move rfl rfl ?_
  refine TL.move rfl rfl ?_
  refine TL.append sl50 rfl rfl rfl (World.ownsRow_nil _ w.heap.size _ _) (News.ofRd Try.underlying50 (ha) (one_u8 _)) (by omega) (by omega) (by omega) (fun v8 w8 hv8 hc8 _ => ?_)
  rw [Nat.zero_add, List.nil_append] at hv8
  have q8 : Ch [] w w8 := hc8
  have z8 := q8.size
  refine TL.assign rfl rfl ?_
  refine TL.done ?_
  refine Thn.go ?_
  refine TC.seq ?_
  refine TC.region ?_
  refine TL.move rfl rfl ?_
  refine TL.buildSlice (vs := [128].map u8) [.const (Value.int IntKind.u8 128)] sl50 rfl rfl rfl (by decide) (by first | simp [Value.cells]; done | simp [Value.cells, cl_len]; done) rfl (fun w10 hb10 hc10 hz10 => ?_)
  refine TL.append sl50 rfl rfl rfl (hv8.ch0 hc10) (News.ofRd Try.underlying50 (Rd.byte 128 hb10) (one_byte _)) (by omega) (by omega) (by omega) (fun v11 w11 hv11 hc11 _ => ?_)
  have q11 : Ch [] w w11 := (hv8.ch0 hc10).thenCh (q8.trans0 hc10) hc11
  refine TL.assign rfl rfl ?_
  refine TL.done ?_
  refine Thn.go ?_
  refine TC.seq ?_
  refine TC.block ?_
  refine TC.loop2 (fun (z : Nat) (v : Value) => [(0, .slice ad l.length c), (3, v)]) (fun z v w' => z ≤ Sha.padN l.length ∧ Own w' w.heap.size 5 1 v (l.length + 1 + z) ((l ++ [128] ++ List.replicate z 0).map u8) ∧ Ch [] w w') (fun z _ => Sha.padN l.length - z) 0 v11 (by repeat (first | exact trivial | refine ⟨rfl, ?_⟩)) (⟨by omega, by simpa using hv11, q11⟩) (fun z v w' hH => ?_)
  obtain ⟨hz, hown, hch⟩ := hH
  obtain ⟨av, cv, rfl, _⟩ := hown.shape
  have zz := hch.size
  refine TC.seq ?_
  refine TC.seq ?_
  refine TC.region ?_
  refine TL.move rfl rfl ?_
  refine TL.lenSlice Try.underlying50 rfl rfl ?_
  refine TL.rem_i64 rfl rfl (by omega) (by decide) rfl ?_
  refine TL.neq rfl rfl rfl ?_
  refine TL.done ?_
  refine Thn.go ?_
  refine TC.condP rfl (fun h1 => ?_) (fun h1 => ?_)
  ·
    have hlt := Sha.pad_go hz (by omega)
    refine TC.skip ?_
    refine Thn.go ?_
    refine TC.block ?_
    refine TC.region ?_
    refine TL.move rfl rfl ?_
    refine TL.buildSlice (vs := [0].map u8) [.const (Value.int IntKind.u8 0)] sl50 rfl rfl rfl (by decide) (by first | simp [Value.cells]; done | simp [Value.cells, cl_len]; done) rfl (fun w17 hb17 hc17 hz17 => ?_)
    refine TL.append sl50 rfl rfl rfl (hown.ch0 hc17) (News.ofRd Try.underlying50 (Rd.byte 0 hb17) (one_byte _)) (by omega) (by omega) (by omega) (fun v18 w18 hv18 hc18 _ => ?_)
    refine TL.assign rfl rfl ?_
    refine TL.done ?_
    refine Blk.go ?_
    refine Lp.go ((z + 1, v18)) (by repeat (first | exact trivial | refine ⟨rfl, ?_⟩)) (?_) (by show Sha.padN l.length - (z + 1) < Sha.padN l.length - z; omega)
    refine ⟨by show z + 1 ≤ _; omega, ?_, (hown.ch0 hc17).thenCh (hch.trans0 hc17) hc18⟩
    show Own w18 w.heap.size 5 1 v18 (l.length + 1 + (z + 1)) ((l ++ [128] ++ List.replicate (z + 1) 0).map u8)
    rw [List.replicate_succ', ← List.append_assoc, List.map_append]
    exact hv18
  ·
    have hze := Sha.pad_end hz (by omega)
    refine TC.exit ?_
    refine Thn.exit ?_
    refine Lp.exit ?_
    refine Blk.hit ?_
    refine Thn.go ?_
    refine TC.seq ?_
    refine TC.region ?_
    refine TL.move rfl rfl ?_
    refine TL.lenSlice Try.underlying50 rfl rfl ?_
    refine TL.conv_u64 (m := l.length) Try.underlying3 Try.underlying76 rfl rfl ?_
    refine TL.mul_u64 (b := 8) rfl rfl rfl ?_
    refine TL.assign rfl rfl ?_
    refine TL.done ?_
    refine Thn.go ?_
    refine TC.seq ?_
    refine TC.seq ?_
    refine TC.region ?_
    refine TL.assign rfl rfl ?_
    refine TL.done ?_
    refine Thn.go ?_
    refine TC.block ?_
    refine TC.loop2 (fun (j : Nat) (v : Value) => [(3, v), (4, u64 (UInt64.ofNat l.length * 8)), (5, .int .i64 (7 - (j : Int)))]) (fun j v w2 => j ≤ 8 ∧ Own w2 w.heap.size 5 1 v (l.length + 1 + z + j) ((l ++ [128] ++ List.replicate z 0 ++ (List.range j).map (Sha.tb l.length)).map u8) ∧ Ch [] w w2) (fun j _ => 8 - j) 0 (.slice av (l.length + 1 + z) cv) (by repeat (first | exact trivial | refine ⟨rfl, ?_⟩)) (⟨by omega, by simpa using hown, hch⟩) (fun j v w2 hH => ?_)
    obtain ⟨hj, hown2, hch2⟩ := hH
    have zz2 := hch2.size
    refine TC.seq ?_
    refine TC.seq ?_
    refine TC.region ?_
    refine TL.move rfl rfl ?_
    refine TL.geq rfl rfl rfl ?_
    refine TL.done ?_
    refine Thn.go ?_
    refine TC.condP rfl (fun h2 => ?_) (fun h2 => ?_)
    ·
      have hj7 : j ≤ 7 := by omega
      refine TC.skip ?_
      refine Thn.go ?_
      refine TC.seq ?_
      refine TC.block ?_
      refine TC.region ?_
      refine TL.move rfl rfl ?_
      refine TL.move rfl rfl ?_
      refine TL.move rfl rfl ?_
      refine TL.top (v' := .int .i64 ((7 - j : Nat) : Int)) (by congr 1; omega) ?_
      refine TL.conv_u64 (m := 7 - j) Try.underlying3 Try.underlying68 rfl rfl ?_
      refine TL.mul_u64 (a := 8) rfl rfl rfl ?_
      refine TL.shr_u64 rfl rfl (by omega) rfl ?_
      refine TL.conv_u8 Try.underlying76 Try.underlying5 rfl rfl ?_
      refine TL.top (v' := u8 (Sha.tb l.length j)) (by rw [Sha.sh_u64 (show 7 - j ≤ 7 by omega), Sha.tb, show (((8 * (7 - j) : Nat) : Int)).toNat = 56 - 8 * j by omega]) ?_
      refine TL.buildSlice [.tmp 33] sl50 rfl rfl rfl (by decide) (by first | simp [Value.cells]; done | simp [Value.cells, cl_len]; done) rfl (fun w34 hb34 hc34 hz34 => ?_)
      refine TL.append sl50 rfl rfl rfl (hown2.ch0 hc34) (News.ofRd Try.underlying50 (Rd.byte _ hb34) (one_byte _)) (by omega) (by omega) (by omega) (fun v35 w35 hv35 hc35 _ => ?_)
      refine TL.assign rfl rfl ?_
      refine TL.done ?_
      refine Blk.go ?_
      refine Thn.go ?_
      refine TC.region ?_
      refine TL.move rfl rfl ?_
      refine TL.sub_i64 rfl rfl (by omega) (by omega) rfl ?_
      refine TL.top (v' := .int .i64 (7 - ((j + 1 : Nat) : Int))) (by congr 1; omega) ?_
      refine TL.assign rfl rfl ?_
      refine TL.done ?_
      refine Lp.go ((j + 1, v35)) (by repeat (first | exact trivial | refine ⟨rfl, ?_⟩)) (?_) (by show 8 - (j + 1) < 8 - j; omega)
      refine ⟨by show j + 1 ≤ 8; omega, ?_, (hown2.ch0 hc34).thenCh (hch2.trans0 hc34) hc35⟩
      show Own w35 w.heap.size 5 1 v35 (l.length + 1 + z + (j + 1)) ((l ++ [128] ++ List.replicate z 0 ++ (List.range (j + 1)).map (Sha.tb l.length)).map u8)
      have e : (List.range (j + 1)).map (Sha.tb l.length) = (List.range j).map (Sha.tb l.length) ++ [Sha.tb l.length j] := by rw [List.range_succ, List.map_append]; rfl
      rw [e, ← List.append_assoc, List.map_append]
      exact hv35
    ·
      have hj8 : j = 8 := by omega
      subst hj8
      refine TC.exit ?_
      refine Thn.exit ?_
      refine Lp.exit ?_
      refine Blk.hit ?_
      refine Thn.go ?_
      refine TC.seq ?_
      refine TC.region ?_
      refine TL.move rfl rfl ?_
      refine TL.assign rfl rfl ?_
      refine TL.done ?_
      refine Thn.go ?_
      refine TC.ret ?_
      refine Ends.ret [2] rfl rfl ?_
      exact ⟨by rw [Sha.longer_len, Sha.longer_eq, ← hze]; exact hown2, hch2⟩

theorem fn43 (a : Value) (l : List UInt8) (hl : l.length ≤ 1000000000000) (w : World) (ha : Rd w a 1 l.length (l.map u8)) : Rets Try.prog 43 #[a] w (fun v w' => v = .agg ((Sha.sum l).map u8).toArray ∧ Ch [] w w') := by
  have hmm : maxLen = 9223372036854775807 := rfl
  have hp := Sha.padN_lt l.length
  have hL := Sha.longer_len l
  have hL64 := Sha.longer_64 l
  refine Rets.of (n := 45) (vs := [_]) Try.func43 rfl rfl rfl ?_
  refine TC.seq ?_
  refine TC.region ?_
  refine TL.alloc ze48 rfl (fun w2 hb2 hc2 hz2 => ?_)
  refine TL.done ?_
  refine Thn.go ?_
  refine TC.seq ?_
  refine TC.region ?_
  refine TL.call can56 rfl rfl (fn56 w2) (fun v9 w9 hr9 => ?_)
  obtain ⟨rfl, hc9⟩ := hr9
  refine TL.alloc ze81 rfl (fun w3 hb3 hc3 hz3 => ?_)
  refine TL.store sz81 rfl rfl rfl (hb3) (by first | omega | simp [Value.cells]) (by simpa [Value.cells] using one_u32 Sha.h0) (.inl rfl) (fun ws1 hbs1 hcs1 hzs1 => ?_)
  replace hbs1 : Has ws1 w9.heap.size (Sha.h0.map u32).toArray 81 (0, 0) := hbs1.setAll (by simp [Value.cells, Sha.h0])
  have q1 : Ch [] w ws1 := ((hc2.trans0 hc9).trans0 hc3).then1 hcs1 (by have := hc9.size; have := hc2.size; omega)
  have k1 : Ch [] w2 ws1 := (hc9.trans0 hc3).then1 hcs1 hc9.size
  refine TL.done ?_
  refine Thn.go ?_
  refine TC.seq ?_
  refine TC.region ?_
  refine TL.call can57 rfl rfl (fn57 ws1) (fun v10 w10 hr10 => ?_)
  obtain ⟨rfl, hc10⟩ := hr10
  refine TL.alloc ze84 rfl (fun w4 hb4 hc4 hz4 => ?_)
  refine TL.store sz84 rfl rfl rfl (hb4) (by first | omega | simp [Value.cells]) (by simpa [Value.cells] using one_u32 Sha.ks) (.inl rfl) (fun ws2 hbs2 hcs2 hzs2 => ?_)
  replace hbs2 : Has ws2 w10.heap.size (Sha.ks.map u32).toArray 84 (0, 0) := hbs2.setAll (by simp [Value.cells, Sha.ks])
  have k2 : Ch [] ws1 ws2 := (hc10.trans0 hc4).then1 hcs2 hc10.size
  refine TL.done ?_
  refine Thn.go ?_
  refine TC.seq ?_
  refine TC.region ?_
  refine TL.move rfl rfl ?_
  refine TL.call can58 rfl rfl (fn58 _ l (by omega) ws2 (ha.ch0 (q1.trans0 k2))) (fun v12 w12 hr12 => ?_)
  obtain ⟨hv12, hc12⟩ := hr12
  obtain ⟨av, cv, rfl, _⟩ := hv12.shape
  have z9 := hc9.size; have z2 := hc2.size; have z10 := hc10.size; have z12 := hc12.size
  have b2 : Has w12 w.heap.size _ 48 (0, 0) := (hb2.ch0 k1).ch0 (k2.trans0 hc12)
  have b3 := hbs1.ch0 (k2.trans0 hc12)
  have b4 := hbs2.ch0 hc12
  have qw : Ch [] w w12 := (q1.trans0 k2).trans0 hc12
  obtain ⟨N, hN⟩ : ∃ N, (Sha.longer l).length / 64 = N := ⟨_, rfl⟩
  rw [hN] at hL64
  refine TL.assign rfl rfl ?_
  refine TL.done ?_
  refine Thn.go ?_
  refine TC.seq ?_
  refine TC.seq ?_
  refine TC.region ?_
  refine TL.assign rfl rfl ?_
  refine TL.done ?_
  refine Thn.go ?_
  refine TC.block ?_
  refine TC.loop1 (fun (n : Nat) => [(2, .pointer (some ⟨w.heap.size, 0, none⟩)), (3, .pointer (some ⟨w9.heap.size, 0, none⟩)), (4, .pointer (some ⟨w10.heap.size, 0, none⟩)), (5, .slice av (Sha.longer l).length cv), (6, .int .i64 (64 * (n : Int)))]) (fun n w' => n ≤ N ∧ Has w' w9.heap.size ((Sha.blocks (Sha.longer l) Sha.h0 n).map u32).toArray 81 (0, 0) ∧ Ch [w9.heap.size] w12 w') (fun n => N - n) 0 (by repeat (first | exact trivial | refine ⟨rfl, ?_⟩)) (⟨by omega, b3, Ch.refl _ _⟩) (fun n w' hH => ?_)
  obtain ⟨hn, hB, hch⟩ := hH
  have hbl := Sha.blocks_len (Sha.longer l) (h := Sha.h0) rfl n
  refine TC.seq ?_
  refine TC.seq ?_
  refine TC.region ?_
  refine TL.move rfl rfl ?_
  refine TL.move rfl rfl ?_
  refine TL.lenSlice Try.underlying50 rfl rfl ?_
  refine TL.lss rfl rfl rfl ?_
  refine TL.done ?_
  refine Thn.go ?_
  refine TC.condP rfl (fun h1 => ?_) (fun h1 => ?_)
  ·
    have hnN : n < N := by omega
    have hcap := (Rd.ofOwn hv12).cap
    refine TC.skip ?_
    refine Thn.go ?_
    refine TC.seq ?_
    refine TC.block ?_
    refine TC.regionH (fun w4 => Ch [w9.heap.size] w12 w4) mixed0 ?_
    have hS : (fun w4 => Ch [w9.heap.size] w12 w4) _ := hch.trans (Ch.drew [] w') (fun _ h _ => h) (by simp)
    refine TH.take (i := 1) rfl rfl rfl rfl rfl (by kernel_rfl) (by kernel_rfl) (by kernel_rfl) hS (fun w2 hw2 => TL.move rfl rfl (TL.done ⟨rfl, rfl⟩)) ?_
    refine TH.take (i := 2) rfl rfl rfl rfl rfl (by kernel_rfl) (by kernel_rfl) (by kernel_rfl) hS (fun w2 hw2 => TL.move rfl rfl (TL.done ⟨rfl, rfl⟩)) ?_
    refine TH.take (i := 3) rfl rfl rfl rfl rfl (by kernel_rfl) (by kernel_rfl) (by kernel_rfl) hS (fun w2 hw2 => TL.move rfl rfl (TL.done ⟨rfl, rfl⟩)) ?_
    refine TH.take (i := 4) rfl rfl rfl rfl rfl (by kernel_rfl) (by kernel_rfl) (by kernel_rfl) hS (fun w2 hw2 => TL.add_i64 rfl rfl (by omega) (by omega) rfl (TL.done ⟨rfl, rfl⟩)) ?_
    refine TH.take (i := 5) rfl rfl rfl rfl rfl (by kernel_rfl) (by kernel_rfl) (by kernel_rfl) hS (fun w2 hw2 => TL.sliceLoHi (64 * n) (64 * n + 64) sl50 rfl rfl rfl (by first | rfl | omega) (by first | rfl | omega) (by omega) (by omega) rfl (TL.done ⟨rfl, rfl⟩)) ?_
    refine TH.take (i := 6) rfl rfl rfl rfl rfl (by kernel_rfl) (by kernel_rfl) (by kernel_rfl) hS (fun w2 hw2 => TL.loadAgg (Sha.ks.map u32) ag84 rfl rfl (fun j _ => by rw [(b4.ch hw2 (by simp; omega)).cell, Nat.zero_add, List.getElem?_toArray]) rfl (TL.done ⟨rfl, rfl⟩)) ?_
    refine TH.one (i := 0) (by kernel_rfl) rfl rfl ?_
    refine TL.loadAgg ((Sha.blocks (Sha.longer l) Sha.h0 n).map u32) ag81 rfl (by simpa using hbl) (fun j _ => by rw [Has.cell (show Has w'.drew _ _ _ _ from hB), Nat.zero_add, List.getElem?_toArray]) rfl ?_
    have hS : (fun w4 => Ch [w9.heap.size] w12 w4) _ := hS
    refine TL.done ⟨hS, ?_⟩
    refine TH.one (i := 7) (by kernel_rfl) rfl rfl ?_
    refine TL.call can59 rfl rfl (fn59 _ hbl _ (((Sha.longer l).drop (64 * n)).take 64) (by simp; omega) _ (Rd.bytes _ ((Rd.ch (Rd.ofOwn hv12) hS (by intro g hg; have := hv12.ge g hg; simp; omega)).part (i := 64 * n) (j := 64 * n + 64) (by omega) (by omega)) (by simp; omega) (by simp [List.take_drop]))) (fun v26 w26 hr26 => ?_)
    obtain ⟨rfl, hc26⟩ := hr26
    have hS : (fun w4 => Ch [w9.heap.size] w12 w4) _ := hS.trans hc26 (fun _ h _ => h) (by simp)
    refine TL.done ⟨hS, ?_⟩
    refine TH.one (i := 8) (by kernel_rfl) rfl rfl ?_
    refine TL.store sz81 rfl rfl (by simp [Value.cells, Sha.mix_len]) (Has.ch0 (show Has w'.drew _ _ _ _ from hB) hc26) (by simp [hbl]) (by simpa [Value.cells] using one_u32 (Sha.mix _ _)) (.inl rfl) (fun ws3 hbs3 hcs3 hzs3 => ?_)
    replace hbs3 : Has ws3 w9.heap.size ((Sha.blocks (Sha.longer l) Sha.h0 (n + 1)).map u32).toArray 81 (0, 0) := hbs3.setAll (by simp [Value.cells, hbl, Sha.mix_len])
    have hS : (fun w4 => Ch [w9.heap.size] w12 w4) _ := hS.trans hcs3 (fun _ h _ => h) (fun _ h _ => h)
    refine TL.done ⟨hS, ?_⟩
    refine TH.done (by kernel_rfl) ?_
    refine Blk.go ?_
    refine Thn.go ?_
    refine TC.region ?_
    refine TL.move rfl rfl ?_
    refine TL.add_i64 rfl rfl (by omega) (by omega) rfl ?_
    refine TL.top (v' := .int .i64 (64 * ((n + 1 : Nat) : Int))) (by congr 1 <;> omega) ?_
    refine TL.assign rfl rfl ?_
    refine TL.done ?_
    refine Lp.go (n + 1) (by repeat (first | exact trivial | refine ⟨rfl, ?_⟩)) ?_ (by first | omega | (dsimp only; omega))
    exact ⟨by omega, hbs3, hS⟩
  ·
    have hnN : n = N := by omega
    subst hnN
    obtain ⟨h, hh⟩ : ∃ h, Sha.blocks (Sha.longer l) Sha.h0 n = h := ⟨_, rfl⟩
    have hs : Sha.sum l = Sha.out h := by rw [Sha.sum, hN, hh]
    rw [hh] at hB hbl
    have z' := hch.size
    refine TC.exit ?_
    refine Thn.exit ?_
    refine Lp.exit ?_
    refine Blk.hit ?_
    refine Thn.go ?_
    refine TC.seq ?_
    refine TC.region ?_
    refine TL.alloc ze48 rfl (fun w7 hb7 hc7 hz7 => ?_)
    refine TL.done ?_
    refine Thn.go ?_
    refine TC.seq ?_
    refine TC.seq ?_
    refine TC.region ?_
    refine TL.assign rfl rfl ?_
    refine TL.done ?_
    refine Thn.go ?_
    refine TC.block ?_
    refine TC.loop1 (fun (i : Nat) => [(2, .pointer (some ⟨w.heap.size, 0, none⟩)), (3, .pointer (some ⟨w9.heap.size, 0, none⟩)), (7, .pointer (some ⟨w'.heap.size, 0, none⟩)), (8, .int .i64 (i : Int))]) (fun i w4 => i ≤ 32 ∧ ArrL u8 w4 w'.heap.size 48 32 ((List.range i).map (Sha.ob h)) ∧ Ch [w'.heap.size] w7 w4) (fun i => 32 - i) 0 (by repeat (first | exact trivial | refine ⟨rfl, ?_⟩)) (⟨by omega, ArrL.nil hb7 (by simp [Value.cells]), Ch.refl _ _⟩) (fun i w4 hH => ?_)
    obtain ⟨hi, hO, hc4'⟩ := hH
    have hhw : ArrL u32 w4 w9.heap.size 81 8 h := ((ArrL.ofFull hB hbl).ch0 hc7).ch hc4' (by simp; omega)
    refine TC.seq ?_
    refine TC.seq ?_
    refine TC.region ?_
    refine TL.move rfl rfl ?_
    refine TL.lss rfl rfl rfl ?_
    refine TL.done ?_
    refine Thn.go ?_
    refine TC.condP rfl (fun h2 => ?_) (fun h2 => ?_)
    ·
      refine TC.skip ?_
      refine Thn.go ?_
      refine TC.seq ?_
      refine TC.block ?_
      refine TC.region ?_
      refine TL.move rfl rfl ?_
      refine TL.move rfl rfl ?_
      refine TL.quo_i64 rfl rfl (by omega) (by omega) (by decide) rfl ?_
      refine TL.indexArr (i / 4) ar81 rfl rfl (by first | rfl | omega) (by omega) rfl ?_
      refine TL.load pl80 rfl (hhw.get (map_getD _ _ 0 (by omega))) rfl ?_
      refine TL.move rfl rfl ?_
      refine TL.rem_i64 rfl rfl (by omega) (by decide) rfl ?_
      refine TL.conv_u32 (m := i % 4) Try.underlying3 Try.underlying80 rfl rfl ?_
      refine TL.mul_u32 (a := 8) rfl rfl rfl ?_
      refine TL.sub_u32 (a := 24) rfl rfl rfl ?_
      refine TL.shr_u32 rfl rfl (by omega) rfl ?_
      refine TL.conv_u8 Try.underlying80 Try.underlying5 rfl rfl ?_
      refine TL.top (v' := u8 (Sha.ob h i)) (by rw [Sha.sh_u32 (show i % 4 ≤ 3 by omega), Sha.ob, Int.toNat_natCast]) ?_
      refine TL.indexArr (i) ar48 rfl rfl (by first | rfl | omega) (by omega) rfl ?_
      obtain ⟨cur, hcs, hcur, hget⟩ := hO
      refine TL.store sz5 rfl rfl rfl (hcur) (by first | omega | simp [Value.cells]) (by simp [Value.cells, Value.oneCell']) (.inl rfl) (fun ws4 hbs4 hcs4 hzs4 => ?_)
      replace hbs4 := hbs4.setOne rfl (by omega)
      refine TL.done ?_
      refine Blk.go ?_
      refine Thn.go ?_
      refine TC.region ?_
      refine TL.move rfl rfl ?_
      refine TL.add_i64 rfl rfl (by omega) (by omega) rfl ?_
      refine TL.assign rfl rfl ?_
      refine TL.done ?_
      refine Lp.go (i + 1) (by repeat (first | exact trivial | refine ⟨rfl, ?_⟩)) ?_ (by first | omega | (dsimp only; omega))
      refine ⟨by omega, ⟨_, by simpa using hcs, hbs4, ?_⟩, hc4'.trans hcs4 (fun _ h _ => h) (fun _ h _ => h)⟩
      have := arr_push hget (by rw [List.length_map, List.length_range]; omega) (Sha.ob h i)
      rw [Nat.zero_add, Nat.mul_one, List.range_succ, List.map_append]
      rw [List.length_map, List.length_range] at this
      exact this
    ·
      have hi32 : i = 32 := by omega
      subst hi32
      have hF := hO.full (by simp)
      rw [← Sha.out_eq, ← hs] at hF
      have hsl := Sha.sum_len l
      have b2' := ((b2.ch hch (by simp; omega)).ch0 hc7).ch hc4' (by simp; omega)
      refine TC.exit ?_
      refine Thn.exit ?_
      refine Lp.exit ?_
      refine Blk.hit ?_
      refine Thn.go ?_
      refine TC.seq ?_
      refine TC.region ?_
      refine TL.loadAgg ((Sha.sum l).map u8) ag48 rfl (by simpa using hsl) (fun j _ => by rw [hF.cell, Nat.zero_add, List.getElem?_toArray]) rfl ?_
      refine TL.store sz48 rfl rfl (by simpa [Value.cells] using hsl) b2' (by simp [Value.cells]) (by simpa [Value.cells] using one_u8 (Sha.sum l)) (.inl rfl) (fun ws5 hbs5 hcs5 hzs5 => ?_)
      replace hbs5 : Has ws5 w.heap.size ((Sha.sum l).map u8).toArray 48 (0, 0) := hbs5.setAll (by simp [Value.cells, hsl])
      refine TL.done ?_
      refine Thn.go ?_
      refine TC.ret ?_
      refine Ends.cell ((Sha.sum l).map u8) (.inl rfl) rfl ag48 rfl (by simpa using hsl) (fun j _ => by rw [hbs5.cell, Nat.zero_add, List.getElem?_toArray]) ?_
      exact ⟨rfl, ((((qw.thenS hch (by intro x hx; simp at hx; omega)).trans0 hc7).thenS hc4' (by intro x hx; simp at hx; have := qw.size; omega)).then1 hcs5 (Nat.le_refl _))⟩

