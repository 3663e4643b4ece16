/-
  Walks through the given program: each theorem fnN says what the call of function N of the translation hands back, for all arguments that its premises describe, and that nothing that was there has turned.
-/
import Derived.Test.YtcoaophfojkldaaS4
import Derived.Test.YtcoaophfojkldaaLaneK
namespace Go.Proofs.Ytcoaophfojkldaa
open Go.Lane
theorem can51 : Callable Try.prog 51 := ⟨Try.f51, Try.func51, by kernel_rfl, rfl⟩
theorem can52 : Callable Try.prog 52 := ⟨Try.f52, Try.func52, by kernel_rfl, rfl⟩
theorem can53 : Callable Try.prog 53 := ⟨Try.f53, Try.func53, by kernel_rfl, rfl⟩
theorem sl79 : SliceT Try.prog 79 50 1 24 (.slice none 0 0) := SliceT.mk' Try.underlying79 (by kernel_rfl) rfl rfl

theorem fn37 (d : Value) (ps : List (Value × List UInt8)) (l : List UInt8) (hps : ps.flatMap (·.2) = l) (hl : l.length ≤ 1000000000000) (hn : ps.length ≤ 1000) (w : World) (hd : Rd w d 1 ps.length (ps.map (·.1))) (hp : ∀ p ∈ ps, Rd w p.1 1 p.2.length (p.2.map u8)) : Rets Try.prog 37 #[d] w (fun v w' => v = .agg ((Sha.sum l).map u8).toArray ∧ Ch [] w w') := by
  obtain ⟨ad, c, rfl, _⟩ := hd.shape
  have hmm : maxLen = 9223372036854775807 := rfl
  have hpl := Sha.padN_lt l.length
  have hL := Sha.longer_len l
  have hL64 := Sha.longer_64 l
  refine Rets.of (n := 81) (vs := [_]) Try.func37 rfl rfl rfl ?_
  refine TC.seq ?_
  refine TC.region ?_
  refine TL.alloc ze48 rfl (fun w2 hb2 hc2 hz2 => ?_)
  refine TL.done ?_
  refine Thn.go ?_
  refine TC.seq ?_
  refine TC.region ?_
  refine TL.assign rfl rfl ?_
  refine TL.done ?_
  refine Thn.go ?_
  refine TC.seq ?_
  refine TC.seq ?_
  refine TC.region ?_
  refine TL.move rfl rfl ?_
  refine TL.lenSlice Try.underlying79 rfl rfl ?_
  refine TL.move rfl rfl ?_
  refine TL.done ?_
  refine Thn.go ?_
  refine TC.block ?_
  refine TC.loop2 (fun (k : Nat) (v : Value) => [(2, .pointer (some ⟨w.heap.size, 0, none⟩)), (13, .slice ad ps.length c), (14, .int .i64 (ps.length : Int)), (15, .int .i64 (k : Int)), (3, v)]) (fun k v w' => k ≤ ps.length ∧ Own w' w2.heap.size 5 1 v ((ps.take k).flatMap (·.2)).length (((ps.take k).flatMap (·.2)).map u8) ∧ Ch [] w2 w') (fun k _ => ps.length - k) 0 (.slice none 0 0) (by repeat (first | exact trivial | refine ⟨rfl, ?_⟩)) (⟨by omega, World.ownsRow_nil _ _ _ _, Ch.refl _ _⟩) (fun k v w' hH => ?_)
  obtain ⟨hk, hown, hch⟩ := hH
  have hfl := flat_le (·.2) ps k
  rw [hps] at hfl
  have hz' := hch.size
  refine TC.seq ?_
  refine TC.region ?_
  refine TL.lss rfl rfl rfl ?_
  refine TL.done ?_
  refine Thn.go ?_
  refine TC.seq ?_
  refine TC.condP rfl (fun h1 => ?_) (fun h1 => ?_)
  ·
    have hkl : k < ps.length := by omega
    have hq := (hc2.trans0 hch)
    have hdd := hd.ch0 hq
    obtain ⟨b, off, rfl⟩ := hdd.some_ (by omega)
    have hpk := (hp ps[k] (List.getElem_mem hkl)).ch0 hq
    have hfn := flat_next (·.2) ps hkl
    have hfl1 := flat_le (·.2) ps (k + 1)
    rw [hps, hfn, List.length_append] at hfl1
    refine TC.skip ?_
    refine Thn.go ?_
    refine TC.seq ?_
    refine TC.block ?_
    refine TC.seq ?_
    refine TC.region ?_
    refine TL.indexAddr (k) sl79 rfl rfl (by first | rfl | omega) (by omega) rfl ?_
    refine TL.load pl50 rfl (hdd.eltIn (f := (·.1)) hkl) rfl ?_
    refine TL.assign rfl rfl ?_
    refine TL.done ?_
    refine Thn.go ?_
    refine TC.region ?_
    refine TL.move rfl rfl ?_
    refine TL.move rfl rfl ?_
    refine TL.append sl50 rfl rfl rfl (hown) (News.ofRd Try.underlying50 (hpk) (one_u8 _)) (by omega) (by omega) (by omega) (fun v21 w21 hv21 hc21 _ => ?_)
    refine TL.assign rfl rfl ?_
    refine TL.done ?_
    refine Blk.go ?_
    refine Thn.go ?_
    refine TC.region ?_
    refine TL.add_i64 rfl rfl (by omega) (by omega) rfl ?_
    refine TL.move rfl rfl ?_
    refine TL.done ?_
    refine Lp.go ((k + 1, v21)) (by repeat (first | exact trivial | refine ⟨rfl, ?_⟩)) ?_ (by first | omega | (dsimp only; omega))
    refine ⟨by show k + 1 ≤ _; omega, ?_, hown.thenCh hch hc21⟩
    show Own w21 w2.heap.size 5 1 v21 ((ps.take (k + 1)).flatMap (·.2)).length (((ps.take (k + 1)).flatMap (·.2)).map u8)
    rw [hfn, List.length_append, List.map_append]
    exact hv21
  ·
    have hkl : k = ps.length := by omega
    subst hkl
    rw [List.take_length, hps] at hown
    obtain ⟨av, cv, rfl, _⟩ := hown.shape
    refine TC.exit ?_
    refine Thn.exit ?_
    refine Lp.exit ?_
    refine Blk.hit ?_
    refine Thn.go ?_
    refine TC.seq ?_
    refine TC.region ?_
    refine TL.move rfl rfl ?_
    refine TL.lenSlice Try.underlying50 rfl rfl ?_
    refine TL.conv_u64 (m := l.length) Try.underlying3 Try.underlying76 rfl rfl ?_
    refine TL.mul_u64 (b := 8) rfl rfl rfl ?_
    refine TL.assign rfl rfl ?_
    refine TL.done ?_
    refine Thn.go ?_
    refine TC.seq ?_
    refine TC.region ?_
    refine TL.move rfl rfl ?_
    refine TL.buildSlice (vs := [128].map u8) [.const (Value.int IntKind.u8 128)] sl50 rfl rfl rfl (by decide) (by first | simp [Value.cells]; done | simp [Value.cells, cl_len]; done) rfl (fun w28 hb28 hc28 hz28 => ?_)
    refine TL.append sl50 rfl rfl rfl (hown.ch0 hc28) (News.ofRd Try.underlying50 (Rd.byte 128 hb28) (one_byte _)) (by omega) (by omega) (by omega) (fun v29 w29 hv29 hc29 _ => ?_)
    have q29 : Ch [] w2 w29 := (hown.ch0 hc28).thenCh (hch.trans0 hc28) hc29
    refine TL.assign rfl rfl ?_
    refine TL.done ?_
    refine Thn.go ?_
    refine TC.seq ?_
    refine TC.block ?_
    refine TC.loop2 (fun (z : Nat) (v : Value) => [(2, .pointer (some ⟨w.heap.size, 0, none⟩)), (3, v), (6, u64 (UInt64.ofNat l.length * 8))]) (fun z v w' => z ≤ Sha.padN l.length ∧ Own w' w2.heap.size 5 1 v (l.length + 1 + z) ((l ++ [128] ++ List.replicate z 0).map u8) ∧ Ch [] w2 w') (fun z _ => Sha.padN l.length - z) 0 v29 (by repeat (first | exact trivial | refine ⟨rfl, ?_⟩)) (⟨by omega, by simpa using hv29, q29⟩) (fun z v w' hH => ?_)
    obtain ⟨hz, hown, hch⟩ := hH
    obtain ⟨av, cv, rfl, _⟩ := hown.shape
    have zz := hch.size
    refine TC.seq ?_
    refine TC.seq ?_
    refine TC.region ?_
    refine TL.move rfl rfl ?_
    refine TL.lenSlice Try.underlying50 rfl rfl ?_
    refine TL.rem_i64 rfl rfl (by omega) (by decide) rfl ?_
    refine TL.neq rfl rfl rfl ?_
    refine TL.done ?_
    refine Thn.go ?_
    refine TC.condP rfl (fun h2 => ?_) (fun h2 => ?_)
    ·
      have hlt := Sha.pad_go hz (by omega)
      refine TC.skip ?_
      refine Thn.go ?_
      refine TC.block ?_
      refine TC.region ?_
      refine TL.move rfl rfl ?_
      refine TL.buildSlice (vs := [0].map u8) [.const (Value.int IntKind.u8 0)] sl50 rfl rfl rfl (by decide) (by first | simp [Value.cells]; done | simp [Value.cells, cl_len]; done) rfl (fun w35 hb35 hc35 hz35 => ?_)
      refine TL.append sl50 rfl rfl rfl (hown.ch0 hc35) (News.ofRd Try.underlying50 (Rd.byte 0 hb35) (one_byte _)) (by omega) (by omega) (by omega) (fun v36 w36 hv36 hc36 _ => ?_)
      refine TL.assign rfl rfl ?_
      refine TL.done ?_
      refine Blk.go ?_
      refine Lp.go ((z + 1, v36)) (by repeat (first | exact trivial | refine ⟨rfl, ?_⟩)) (?_) (by show Sha.padN l.length - (z + 1) < Sha.padN l.length - z; omega)
      refine ⟨by show z + 1 ≤ _; omega, ?_, (hown.ch0 hc35).thenCh (hch.trans0 hc35) hc36⟩
      show Own w36 w2.heap.size 5 1 v36 (l.length + 1 + (z + 1)) ((l ++ [128] ++ List.replicate (z + 1) 0).map u8)
      rw [List.replicate_succ', ← List.append_assoc, List.map_append]
      exact hv36
    ·
      have hze := Sha.pad_end hz (by omega)
      refine TC.exit ?_
      refine Thn.exit ?_
      refine Lp.exit ?_
      refine Blk.hit ?_
      refine Thn.go ?_
      refine TC.seq ?_
      refine TC.seq ?_
      refine TC.region ?_
      refine TL.move rfl rfl ?_
      refine TL.done ?_
      refine Thn.go ?_
      refine TC.block ?_
      refine TC.loop2 (fun (j : Nat) (v : Value) => [(2, .pointer (some ⟨w.heap.size, 0, none⟩)), (3, v), (6, u64 (UInt64.ofNat l.length * 8)), (37, .int .i64 (j : Int))]) (fun j v w4 => j ≤ 8 ∧ Own w4 w2.heap.size 5 1 v (l.length + 1 + z + j) ((l ++ [128] ++ List.replicate z 0 ++ (List.range j).map (Sha.tb l.length)).map u8) ∧ Ch [] w2 w4) (fun j _ => 8 - j) 0 (.slice av (l.length + 1 + z) cv) (by repeat (first | exact trivial | refine ⟨rfl, ?_⟩)) (⟨by omega, by simpa using hown, hch⟩) (fun j v w4 hH => ?_)
      obtain ⟨hj, hown2, hch2⟩ := hH
      have zz2 := hch2.size
      refine TC.seq ?_
      refine TC.region ?_
      refine TL.lss rfl rfl rfl ?_
      refine TL.done ?_
      refine Thn.go ?_
      refine TC.seq ?_
      refine TC.condP rfl (fun h3 => ?_) (fun h3 => ?_)
      ·
        have hj7 : j ≤ 7 := by omega
        refine TC.skip ?_
        refine Thn.go ?_
        refine TC.seq ?_
        refine TC.block ?_
        refine TC.seq ?_
        refine TC.region ?_
        refine TL.move rfl rfl ?_
        refine TL.assign rfl rfl ?_
        refine TL.done ?_
        refine Thn.go ?_
        refine TC.region ?_
        refine TL.move rfl rfl ?_
        refine TL.move rfl rfl ?_
        refine TL.move rfl rfl ?_
        refine TL.mul_i64 rfl rfl (by omega) (by omega) rfl ?_
        refine TL.sub_i64 rfl rfl (by omega) (by omega) rfl ?_
        refine TL.shr_u64 rfl rfl (by omega) rfl ?_
        refine TL.conv_u8 Try.underlying76 Try.underlying5 rfl rfl ?_
        refine TL.top (v' := u8 (Sha.tb l.length j)) (by rw [Sha.tb, show ((56 : Int) - 8 * (j : Int)).toNat = 56 - 8 * j by omega]) ?_
        refine TL.buildSlice [.tmp 46] sl50 rfl rfl rfl (by decide) (by first | simp [Value.cells]; done | simp [Value.cells, cl_len]; done) rfl (fun w47 hb47 hc47 hz47 => ?_)
        refine TL.append sl50 rfl rfl rfl (hown2.ch0 hc47) (News.ofRd Try.underlying50 (Rd.byte _ hb47) (one_byte _)) (by omega) (by omega) (by omega) (fun v48 w48 hv48 hc48 _ => ?_)
        refine TL.assign rfl rfl ?_
        refine TL.done ?_
        refine Blk.go ?_
        refine Thn.go ?_
        refine TC.region ?_
        refine TL.add_i64 rfl rfl (by omega) (by omega) rfl ?_
        refine TL.move rfl rfl ?_
        refine TL.done ?_
        refine Lp.go ((j + 1, v48)) (by repeat (first | exact trivial | refine ⟨rfl, ?_⟩)) (?_) (by show 8 - (j + 1) < 8 - j; omega)
        refine ⟨by show j + 1 ≤ 8; omega, ?_, (hown2.ch0 hc47).thenCh (hch2.trans0 hc47) hc48⟩
        show Own w48 w2.heap.size 5 1 v48 (l.length + 1 + z + (j + 1)) ((l ++ [128] ++ List.replicate z 0 ++ (List.range (j + 1)).map (Sha.tb l.length)).map u8)
        have e : (List.range (j + 1)).map (Sha.tb l.length) = (List.range j).map (Sha.tb l.length) ++ [Sha.tb l.length j] := by rw [List.range_succ, List.map_append]; rfl
        rw [e, ← List.append_assoc, List.map_append]
        exact hv48
      ·
        have hj8 : j = 8 := by omega
        subst hj8
        rw [← Sha.longer_eq' hze] at hown2
        rw [show l.length + 1 + z + 8 = (Sha.longer l).length by omega] at hown2
        refine TC.exit ?_
        refine Thn.exit ?_
        refine Lp.exit ?_
        refine Blk.hit ?_
        refine Thn.go ?_
        refine TC.seq ?_
        refine TC.region ?_
        refine TL.call can51 rfl rfl (fn51 w4) (fun v50 w50 hr50 => ?_)
        obtain ⟨rfl, hc50⟩ := hr50
        refine TL.call can52 rfl rfl (fn52 w50) (fun v51 w51 hr51 => ?_)
        obtain ⟨rfl, hc51⟩ := hr51
        refine TL.alloc ze82 rfl (fun w8 hb8 hc8 hz8 => ?_)
        refine TL.alloc ze84 rfl (fun w9 hb9 hc9 hz9 => ?_)
        refine TL.store sz82 rfl rfl rfl (hb8.ch0 hc9) (by first | omega | simp [Value.cells]) (by simpa [Value.cells] using one_u32 Sha.h0) (.inl rfl) (fun ws1 hbs1 hcs1 hzs1 => ?_)
        replace hbs1 : Has ws1 w51.heap.size (Sha.h0.map u32).toArray 82 (0, 0) := hbs1.setAll (by simp [Value.cells, Sha.h0])
        refine TL.store sz84 rfl rfl rfl (hb9.ch hcs1 (by simp; have := hc8.size; omega)) (by first | omega | simp [Value.cells]) (by simpa [Value.cells] using one_u32 Sha.ks) (.inl rfl) (fun ws2 hbs2 hcs2 hzs2 => ?_)
        replace hbs2 : Has ws2 w8.heap.size (Sha.ks.map u32).toArray 84 (0, 0) := hbs2.setAll (by simp [Value.cells, Sha.ks])
        have hlt8 : w51.heap.size < w8.heap.size := by omega
        have hbs1' := hbs1.ch hcs2 (by simp; omega)
        have z50 := hc50.size; have z51 := hc51.size
        have q : Ch [] w4 ws2 := ((((hc50.trans0 hc51).trans0 hc8).trans0 hc9).then1 hcs1 (by omega)).then1 hcs2 (by omega)
        have hown3 := hown2.ch0 q
        have hlo : ∀ g, v.ownBlock = some g → g < w4.heap.size := fun g hg => (World.ownsRow.lt hown2 g hg).2
        obtain ⟨av, cv, rfl⟩ := hown3.shape
        obtain ⟨N, hN⟩ : ∃ N, (Sha.longer l).length / 64 = N := ⟨_, rfl⟩
        rw [hN] at hL64
        refine TL.done ?_
        refine Thn.go ?_
        refine TC.seq ?_
        refine TC.block ?_
        refine TC.loop2 (fun (n : Nat) (v : Value) => [(2, .pointer (some ⟨w.heap.size, 0, none⟩)), (3, v), (8, .pointer (some ⟨w51.heap.size, 0, none⟩)), (9, .pointer (some ⟨w8.heap.size, 0, none⟩))]) (fun n v w5 => n ≤ N ∧ (∃ a4 c4, v = .slice a4 ((Sha.longer l).length - 64 * n) c4) ∧ Rd w5 v 1 ((Sha.longer l).length - 64 * n) (((Sha.longer l).drop (64 * n)).map u8) ∧ (∀ g, v.ownBlock = some g → g < w4.heap.size) ∧ Has w5 w51.heap.size ((Sha.blocks (Sha.longer l) Sha.h0 n).map u32).toArray 82 (0, 0) ∧ Ch [w51.heap.size] ws2 w5) (fun n _ => N - n) 0 (.slice av (Sha.longer l).length cv) (by repeat (first | exact trivial | refine ⟨rfl, ?_⟩)) (⟨by omega, ⟨av, cv, rfl⟩, by simpa using Rd.ofOwn hown3, hlo, hbs1', Ch.refl _ _⟩) (fun n v w5 hH => ?_)
        obtain ⟨hn, ⟨a4, c4, rfl⟩, hR, hlo, hB, hch4⟩ := hH
        have hbl := Sha.blocks_len (Sha.longer l) (h := Sha.h0) rfl n
        refine TC.seq ?_
        refine TC.seq ?_
        refine TC.region ?_
        refine TL.move rfl rfl ?_
        refine TL.lenSlice Try.underlying50 rfl rfl ?_
        refine TL.gtr rfl rfl rfl ?_
        refine TL.done ?_
        refine Thn.go ?_
        refine TC.condP rfl (fun h4 => ?_) (fun h4 => ?_)
        ·
          have hnN : n < N := by omega
          refine TC.skip ?_
          refine Thn.go ?_
          refine TC.seq ?_
          refine TC.block ?_
          refine TC.region ?_
          refine TL.move rfl rfl ?_
          refine TL.call can53 rfl rfl (fn53 w51.heap.size _ hbl _ ((Sha.longer l).drop (64 * n)) (by simp; omega) w8.heap.size _ hB (hR.bytes _ (by simp) rfl) (hbs2.ch hch4 (by simp; omega)) (by omega)) (fun v58 w58 hr58 => ?_)
          obtain ⟨hm, hc58⟩ := hr58
          refine TL.done ?_
          refine Blk.go ?_
          refine Thn.go ?_
          refine TC.region ?_
          refine TL.move rfl rfl ?_
          refine TL.sliceFrom (64) sl50 rfl rfl (by first | rfl | omega) (by omega) rfl ?_
          refine TL.assign rfl rfl ?_
          refine TL.done ?_
          refine Lp.go ((n + 1, .slice (adv a4 c4 64 1) ((Sha.longer l).length - 64 * n - 64) (c4 - 64))) (by repeat (first | exact trivial | refine ⟨rfl, ?_⟩)) ?_ (by first | omega | (dsimp only; omega))
          have hR2 := (hR.ch hc58 (by intro g hg; have := hlo g hg; simp; omega)).behind (i := 64) (by omega)
          refine ⟨by omega, ⟨_, _, by congr 1⟩, ?_, fun g hg => hlo g (by rw [← blk_adv (ad := a4) (c := c4) (i := 64) (sz := 1)]; exact hg), ?_, hch4.trans hc58 (fun _ h _ => h) (fun _ h _ => h)⟩
          · show Rd w58 _ 1 ((Sha.longer l).length - 64 * (n + 1)) (((Sha.longer l).drop (64 * (n + 1))).map u8)
            rw [show (Sha.longer l).length - 64 * (n + 1) = (Sha.longer l).length - 64 * n - 64 by omega]
            simpa [List.drop_drop, Nat.mul_add] using hR2
          · show Has w58 _ ((Sha.blocks (Sha.longer l) Sha.h0 (n + 1)).map u32).toArray 82 (0, 0)
            rw [Sha.blocks, Sha.mix_take]; exact hm
        ·
          have hnN : n = N := by omega
          subst hnN
          obtain ⟨h, hh⟩ : ∃ h, Sha.blocks (Sha.longer l) Sha.h0 n = h := ⟨_, rfl⟩
          have hs : Sha.sum l = Sha.out h := by rw [Sha.sum, hN, hh]
          rw [hh] at hB hbl
          have qq : Ch [] w2 w5 := (hch2.trans0 q).thenS hch4 (by intro x hx; simp at hx; omega)
          have hout := hb2.ch0 qq
          refine TC.exit ?_
          refine Thn.exit ?_
          refine Lp.exit ?_
          refine Blk.hit ?_
          refine Thn.go ?_
          refine TC.seq ?_
          refine TC.seq ?_
          refine TC.region ?_
          refine TL.loadAgg (h.map u32) ag82 rfl (by simpa using hbl) (fun j _ => by rw [hB.cell, Nat.zero_add, List.getElem?_toArray]) rfl ?_
          refine TL.move rfl rfl ?_
          refine TL.done ?_
          refine Thn.go ?_
          refine TC.block ?_
          refine TC.loop1 (fun (i : Nat) => [(2, .pointer (some ⟨w.heap.size, 0, none⟩)), (59, .agg (h.map u32).toArray), (60, .int .i64 (i : Int))]) (fun i w6 => i ≤ 8 ∧ ArrL u8 w6 w.heap.size 48 32 ((List.range (4 * i)).map (Sha.ob h)) ∧ Ch [w.heap.size] w5 w6) (fun i => 8 - i) 0 (by repeat (first | exact trivial | refine ⟨rfl, ?_⟩)) (⟨by omega, ArrL.nil hout (by simp [Value.cells]), Ch.refl _ _⟩) (fun i w6 hH => ?_)
          obtain ⟨hi, hO, hc6⟩ := hH
          refine TC.seq ?_
          refine TC.region ?_
          refine TL.lss rfl rfl rfl ?_
          refine TL.done ?_
          refine Thn.go ?_
          refine TC.seq ?_
          refine TC.condP rfl (fun h5 => ?_) (fun h5 => ?_)
          ·
            have hi7 : i < 8 := by omega
            refine TC.skip ?_
            refine Thn.go ?_
            refine TC.seq ?_
            refine TC.block ?_
            refine TC.seq ?_
            refine TC.region ?_
            refine TL.move rfl rfl ?_
            refine TL.index (i) av82 rfl rfl (by first | rfl | omega) (by omega) (by rw [List.getElem?_toArray, List.getElem?_map, map_getD h i 0 (by omega)]; rfl) rfl ?_
            refine TL.assign rfl rfl ?_
            refine TL.assign rfl rfl ?_
            refine TL.done ?_
            refine Thn.go ?_
            refine TC.seq ?_
            refine TC.region ?_
            refine TL.move rfl rfl ?_
            refine TL.done ?_
            refine Thn.go ?_
            refine TC.block ?_
            refine TC.loop1 (fun (n : Nat) => [(2, .pointer (some ⟨w.heap.size, 0, none⟩)), (59, .agg (h.map u32).toArray), (60, .int .i64 (i : Int)), (10, .int .i64 (i : Int)), (11, u32 (h.getD i 0)), (64, .int .i64 (n : Int))]) (fun n w7 => n ≤ 4 ∧ ArrL u8 w7 w.heap.size 48 32 ((List.range (4 * i + n)).map (Sha.ob h)) ∧ Ch [w.heap.size] w5 w7) (fun n => 4 - n) 0 (by repeat (first | exact trivial | refine ⟨rfl, ?_⟩)) (⟨by omega, hO, hc6⟩) (fun m w7 hH => ?_)
            obtain ⟨hm, hO, hc7⟩ := hH
            refine TC.seq ?_
            refine TC.region ?_
            refine TL.lss rfl rfl rfl ?_
            refine TL.done ?_
            refine Thn.go ?_
            refine TC.seq ?_
            refine TC.condP rfl (fun h6 => ?_) (fun h6 => ?_)
            ·
              have hm3 : m < 4 := by omega
              refine TC.skip ?_
              refine Thn.go ?_
              refine TC.seq ?_
              refine TC.block ?_
              refine TC.seq ?_
              refine TC.region ?_
              refine TL.move rfl rfl ?_
              refine TL.assign rfl rfl ?_
              refine TL.done ?_
              refine Thn.go ?_
              refine TC.region ?_
              refine TL.move rfl rfl ?_
              refine TL.mul_i64 rfl rfl (by omega) (by omega) rfl ?_
              refine TL.move rfl rfl ?_
              refine TL.add_i64 rfl rfl (by omega) (by omega) rfl ?_
              refine TL.move rfl rfl ?_
              refine TL.move rfl rfl ?_
              refine TL.mul_i64 rfl rfl (by omega) (by omega) rfl ?_
              refine TL.sub_i64 rfl rfl (by omega) (by omega) rfl ?_
              refine TL.shr_u32 rfl rfl (by omega) rfl ?_
              refine TL.conv_u8 Try.underlying80 Try.underlying5 rfl rfl ?_
              refine TL.top (v' := u8 (Sha.ob h (4 * i + m))) (by rw [Sha.ob_at hm3, show ((24 : Int) - 8 * (m : Int)).toNat = 24 - 8 * m by omega]) ?_
              refine TL.indexArr (4 * i + m) ar48 rfl rfl (by first | rfl | omega) (by omega) rfl ?_
              obtain ⟨cur, hcs, hcur, hget⟩ := hO
              refine TL.store sz5 rfl rfl rfl (hcur) (by first | omega | simp [Value.cells]) (by simp [Value.cells, Value.oneCell']) (.inl rfl) (fun ws3 hbs3 hcs3 hzs3 => ?_)
              replace hbs3 := hbs3.setOne rfl (by omega)
              refine TL.done ?_
              refine Blk.go ?_
              refine Thn.go ?_
              refine TC.region ?_
              refine TL.add_i64 rfl rfl (by omega) (by omega) rfl ?_
              refine TL.move rfl rfl ?_
              refine TL.done ?_
              refine Lp.go (m + 1) (by repeat (first | exact trivial | refine ⟨rfl, ?_⟩)) ?_ (by first | omega | (dsimp only; omega))
              refine ⟨by omega, ⟨_, by simpa using hcs, hbs3, ?_⟩, hc7.trans hcs3 (fun _ h _ => h) (fun _ h _ => h)⟩
              have := arr_push hget (by rw [List.length_map, List.length_range]; omega) (Sha.ob h (4 * i + m))
              rw [Nat.zero_add, Nat.mul_one, ← Nat.add_assoc, List.range_succ, List.map_append]
              rw [List.length_map, List.length_range] at this
              exact this
            ·
              have hm4 : m = 4 := by omega
              subst hm4
              refine TC.exit ?_
              refine Thn.exit ?_
              refine Lp.exit ?_
              refine Blk.hit ?_
              refine Blk.go ?_
              refine Thn.go ?_
              refine TC.region ?_
              refine TL.add_i64 rfl rfl (by omega) (by omega) rfl ?_
              refine TL.move rfl rfl ?_
              refine TL.done ?_
              refine Lp.go (i + 1) (by repeat (first | exact trivial | refine ⟨rfl, ?_⟩)) ?_ (by first | omega | (dsimp only; omega))
              exact ⟨by omega, hO, hc7⟩
          ·
            have hi8 : i = 8 := by omega
            subst hi8
            have hF := hO.full (by simp)
            rw [← Sha.out_eq, ← hs] at hF
            have hsl := Sha.sum_len l
            refine TC.exit ?_
            refine Thn.exit ?_
            refine Lp.exit ?_
            refine Blk.hit ?_
            refine Thn.go ?_
            refine TC.seq ?_
            refine TC.region ?_
            refine TL.loadAgg ((Sha.sum l).map u8) ag48 rfl (by simpa using hsl) (fun j _ => by rw [hF.cell, Nat.zero_add, List.getElem?_toArray]) rfl ?_
            refine TL.store sz48 rfl rfl (by simpa [Value.cells] using hsl) hF (by simp [hsl]) (by simpa [Value.cells] using one_u8 (Sha.sum l)) (.inl rfl) (fun ws4 hbs4 hcs4 hzs4 => ?_)
            replace hbs4 : Has ws4 w.heap.size ((Sha.sum l).map u8).toArray 48 (0, 0) := hbs4.setAll (by simp [Value.cells, hsl])
            refine TL.done ?_
            refine Thn.go ?_
            refine TC.ret ?_
            refine Ends.cell ((Sha.sum l).map u8) (.inl rfl) rfl ag48 rfl (by simpa using hsl) (fun j _ => by rw [hbs4.cell, Nat.zero_add, List.getElem?_toArray]) ?_
            exact ⟨rfl, (((hc2.trans0 qq).then1 hc6 (Nat.le_refl _)).then1 hcs4 (Nat.le_refl _))⟩

