/-
  Walks through the given program: each theorem fnN says what the call of function N of the translation hands back, for all arguments that its premises describe, and that nothing that was there has turned.
-/
import Derived.Test.YtcoaophfojkldaaS1
import Derived.Test.YtcoaophfojkldaaLaneJ
namespace Go.Proofs.Ytcoaophfojkldaa
open Go.Lane
theorem can66 : Callable Try.prog 66 := ⟨Try.f66, Try.func66, by kernel_rfl, rfl⟩
theorem av84 : ArrV Try.prog 84 64 80 := ⟨Try.underlying84, ⟨_, Try.underlying80, rfl⟩, by kernel_rfl⟩
theorem av82 : ArrV Try.prog 82 8 80 := ⟨Try.underlying82, ⟨_, Try.underlying80, rfl⟩, by kernel_rfl⟩

/-- A byte of a slice, wherever the walk meets it. -/
theorem byteIn {b off c n : Nat} {l : List UInt8} {w : World} (h : Rd w (.slice (some ⟨b, off, none⟩) n c) 1 n (l.map u8)) {i : Nat} (hi : i < l.length) : w.cell? ⟨b, off + i * 1, none⟩ = some (u8 (l.getD i 0)) := by
  obtain ⟨b', off', e, hc⟩ := h.byteAt hi
  cases e; exact hc

theorem fn66 (a : Value) (l : List UInt8) (k : Nat) (hk : k + 3 < l.length) (hk2 : k ≤ 1000000000000) (w : World) (ha : Rd w a 1 l.length (l.map u8)) : Rets Try.prog 66 #[a, .int .i64 (k : Int)] w (fun v w' => v = u32 (Sha.word l k) ∧ Ch [] w w') := by
  obtain ⟨ad, c, rfl, _⟩ := ha.shape
  obtain ⟨b, off, rfl, _⟩ := ha.byteAt (i := 0) (by omega)
  refine Rets.of (n := 34) (vs := [_, _]) Try.func66 rfl rfl rfl ?_
  refine TC.seq ?_
  refine TC.region ?_
  refine TL.assign rfl rfl ?_
  refine TL.done ?_
  refine Thn.go ?_
  refine TC.seq ?_
  refine TC.regionQ (fun w2 => Ch [] w w2) mixed0 (by kernel_rfl) (Ch.drew _ _) ?_
  refine TQ.via rfl rfl rfl rfl (fun w2 hw2 => TL.move rfl rfl (TL.done ⟨rfl, rfl⟩)) ?_
  refine TQ.via rfl rfl rfl rfl (fun w2 hw2 => TL.move rfl rfl (TL.done ⟨rfl, rfl⟩)) ?_
  refine TQ.via rfl rfl rfl rfl (fun w2 hw2 => TL.indexAddr (k) sl50 rfl rfl (by first | rfl | omega) (by omega) rfl (TL.done ⟨rfl, rfl⟩)) ?_
  refine TQ.via rfl rfl rfl rfl (fun w2 hw2 => TL.load pl5 rfl (byteIn (ha.ch0 hw2) (by omega)) rfl (TL.done ⟨rfl, rfl⟩)) ?_
  refine TQ.via rfl rfl rfl rfl (fun w2 hw2 => TL.conv_u32 Try.underlying5 Try.underlying80 rfl rfl (TL.done ⟨rfl, rfl⟩)) ?_
  refine TQ.via rfl rfl rfl rfl (fun w2 hw2 => TL.shl_u32 rfl rfl (by decide) rfl (TL.done ⟨rfl, rfl⟩)) ?_
  refine TQ.via rfl rfl rfl rfl (fun w2 hw2 => TL.move rfl rfl (TL.done ⟨rfl, rfl⟩)) ?_
  refine TQ.via rfl rfl rfl rfl (fun w2 hw2 => TL.move rfl rfl (TL.done ⟨rfl, rfl⟩)) ?_
  refine TQ.via rfl rfl rfl rfl (fun w2 hw2 => TL.add_i64 rfl rfl (by omega) (by omega) rfl (TL.done ⟨rfl, rfl⟩)) ?_
  refine TQ.via rfl rfl rfl rfl (fun w2 hw2 => TL.indexAddr (k + 1) sl50 rfl rfl (by first | rfl | omega) (by omega) rfl (TL.done ⟨rfl, rfl⟩)) ?_
  refine TQ.via rfl rfl rfl rfl (fun w2 hw2 => TL.load pl5 rfl (byteIn (ha.ch0 hw2) (by omega)) rfl (TL.done ⟨rfl, rfl⟩)) ?_
  refine TQ.via rfl rfl rfl rfl (fun w2 hw2 => TL.conv_u32 Try.underlying5 Try.underlying80 rfl rfl (TL.done ⟨rfl, rfl⟩)) ?_
  refine TQ.via rfl rfl rfl rfl (fun w2 hw2 => TL.shl_u32 rfl rfl (by decide) rfl (TL.done ⟨rfl, rfl⟩)) ?_
  refine TQ.via rfl rfl rfl rfl (fun w2 hw2 => TL.or_u32 rfl rfl rfl (TL.done ⟨rfl, rfl⟩)) ?_
  refine TQ.via rfl rfl rfl rfl (fun w2 hw2 => TL.move rfl rfl (TL.done ⟨rfl, rfl⟩)) ?_
  refine TQ.via rfl rfl rfl rfl (fun w2 hw2 => TL.move rfl rfl (TL.done ⟨rfl, rfl⟩)) ?_
  refine TQ.via rfl rfl rfl rfl (fun w2 hw2 => TL.add_i64 rfl rfl (by omega) (by omega) rfl (TL.done ⟨rfl, rfl⟩)) ?_
  refine TQ.via rfl rfl rfl rfl (fun w2 hw2 => TL.indexAddr (k + 2) sl50 rfl rfl (by first | rfl | omega) (by omega) rfl (TL.done ⟨rfl, rfl⟩)) ?_
  refine TQ.via rfl rfl rfl rfl (fun w2 hw2 => TL.load pl5 rfl (byteIn (ha.ch0 hw2) (by omega)) rfl (TL.done ⟨rfl, rfl⟩)) ?_
  refine TQ.via rfl rfl rfl rfl (fun w2 hw2 => TL.conv_u32 Try.underlying5 Try.underlying80 rfl rfl (TL.done ⟨rfl, rfl⟩)) ?_
  refine TQ.via rfl rfl rfl rfl (fun w2 hw2 => TL.shl_u32 rfl rfl (by decide) rfl (TL.done ⟨rfl, rfl⟩)) ?_
  refine TQ.via rfl rfl rfl rfl (fun w2 hw2 => TL.or_u32 rfl rfl rfl (TL.done ⟨rfl, rfl⟩)) ?_
  refine TQ.via rfl rfl rfl rfl (fun w2 hw2 => TL.move rfl rfl (TL.done ⟨rfl, rfl⟩)) ?_
  refine TQ.via rfl rfl rfl rfl (fun w2 hw2 => TL.move rfl rfl (TL.done ⟨rfl, rfl⟩)) ?_
  refine TQ.via rfl rfl rfl rfl (fun w2 hw2 => TL.add_i64 rfl rfl (by omega) (by omega) rfl (TL.done ⟨rfl, rfl⟩)) ?_
  refine TQ.via rfl rfl rfl rfl (fun w2 hw2 => TL.indexAddr (k + 3) sl50 rfl rfl (by first | rfl | omega) (by omega) rfl (TL.done ⟨rfl, rfl⟩)) ?_
  refine TQ.via rfl rfl rfl rfl (fun w2 hw2 => TL.load pl5 rfl (byteIn (ha.ch0 hw2) (by omega)) rfl (TL.done ⟨rfl, rfl⟩)) ?_
  refine TQ.via rfl rfl rfl rfl (fun w2 hw2 => TL.conv_u32 Try.underlying5 Try.underlying80 rfl rfl (TL.done ⟨rfl, rfl⟩)) ?_
  refine TQ.via rfl rfl rfl rfl (fun w2 hw2 => TL.or_u32 rfl rfl rfl (TL.done ⟨rfl, rfl⟩)) ?_
  refine TQ.via rfl rfl rfl rfl (fun w2 hw2 => TL.assign rfl rfl (TL.done ⟨rfl, rfl⟩)) ?_
  refine TQ.done (fun w2 hw2 => ?_)
  refine Thn.go ?_
  refine TC.ret ?_
  refine Ends.ret [4] rfl rfl ?_
  exact ⟨rfl, hw2⟩

theorem fn53 (hb : Nat) (h : List UInt32) (hh : h.length = 8) (a : Value) (l : List UInt8) (hl : 64 ≤ l.length) (kb : Nat) (w : World) (hhb : Has w hb (h.map u32).toArray 82 (0, 0)) (ha : Rd w a 1 l.length (l.map u8)) (hkb : Has w kb (Sha.ks.map u32).toArray 84 (0, 0)) (hne : hb ≠ kb) : Rets Try.prog 53 #[.pointer (some ⟨hb, 0, none⟩), a, .pointer (some ⟨kb, 0, none⟩)] w (fun _ w' => Has w' hb ((Sha.mix h l).map u32).toArray 82 (0, 0) ∧ Ch [hb] w w') := by
  obtain ⟨ad, c, rfl, _⟩ := ha.shape
  obtain ⟨ab, off, rfl, _⟩ := ha.byteAt (i := 0) (by omega)
  have hlt := hhb.lt
  refine Rets.of (n := 197) (vs := [_, _, _]) Try.func53 rfl rfl rfl ?_
  refine TC.seq ?_
  refine TC.region ?_
  refine TL.alloc ze84 rfl (fun w6 hb6 hc6 hz6 => ?_)
  refine TL.done ?_
  refine Thn.go ?_
  refine TC.seq ?_
  refine TC.seq ?_
  refine TC.region ?_
  refine TL.move rfl rfl ?_
  refine TL.done ?_
  refine Thn.go ?_
  refine TC.block ?_
  refine TC.loop1 (fun (k : Nat) => [(0, .pointer (some ⟨hb, 0, none⟩)), (1, .slice (some ⟨ab, off, none⟩) l.length c), (2, .pointer (some ⟨kb, 0, none⟩)), (6, .pointer (some ⟨w.heap.size, 0, none⟩)), (19, .int .i64 (k : Int))]) (fun k w' => k ≤ 64 ∧ ArrL u32 w' w.heap.size 84 64 (Sha.ws l k) ∧ Ch [] w w') (fun k => 64 - k) 0 (by repeat (first | exact trivial | refine ⟨rfl, ?_⟩)) (⟨by omega, ArrL.nil hb6 (by simp [Value.cells]), hc6⟩) (fun k w' hH => ?_)
  obtain ⟨hk, hA, hch⟩ := hH
  have hwl := Sha.ws_len l k
  refine TC.seq ?_
  refine TC.region ?_
  refine TL.lss rfl rfl rfl ?_
  refine TL.done ?_
  refine Thn.go ?_
  refine TC.seq ?_
  refine TC.condP rfl (fun h1 => ?_) (fun h1 => ?_)
  ·
    refine TC.skip ?_
    refine Thn.go ?_
    refine TC.seq ?_
    refine TC.block ?_
    refine TC.seq ?_
    refine TC.region ?_
    refine TL.move rfl rfl ?_
    refine TL.assign rfl rfl ?_
    refine TL.done ?_
    refine Thn.go ?_
    refine TC.seq ?_
    refine TC.seq ?_
    refine TC.region ?_
    refine TL.move rfl rfl ?_
    refine TL.lss rfl rfl rfl ?_
    refine TL.done ?_
    refine Thn.go ?_
    refine TC.condP rfl (fun h2 => ?_) (fun h2 => ?_)
    ·
      obtain ⟨cur, hcs, hcur, hget⟩ := hA
      have hcd : Has w'.drew w.heap.size cur 84 (0, 0) := hcur
      have had := (ha.ch0 hch).ch0 (Ch.drew [] w')
      refine TC.seq ?_
      refine TC.regionTail 35 mixed0 (by kernel_rfl) ?_
      refine TS.via rfl rfl rfl rfl (TL.move rfl rfl (TL.done ⟨rfl, rfl⟩)) ?_
      refine TS.via rfl rfl rfl rfl (TL.move rfl rfl (TL.done ⟨rfl, rfl⟩)) ?_
      refine TS.via rfl rfl rfl rfl (TL.move rfl rfl (TL.done ⟨rfl, rfl⟩)) ?_
      refine TS.via rfl rfl rfl rfl (TL.mul_i64 rfl rfl (by omega) (by omega) rfl (TL.done ⟨rfl, rfl⟩)) ?_
      refine TS.via rfl rfl rfl rfl (TL.indexAddr (4 * k) sl50 rfl rfl (by first | rfl | omega) (by omega) rfl (TL.done ⟨rfl, rfl⟩)) ?_
      refine TS.via rfl rfl rfl rfl (TL.load pl5 rfl (byteIn had (by omega)) rfl (TL.done ⟨rfl, rfl⟩)) ?_
      refine TS.via rfl rfl rfl rfl (TL.conv_u32 Try.underlying5 Try.underlying80 rfl rfl (TL.done ⟨rfl, rfl⟩)) ?_
      refine TS.via rfl rfl rfl rfl (TL.shl_u32 rfl rfl (by decide) rfl (TL.done ⟨rfl, rfl⟩)) ?_
      refine TS.via rfl rfl rfl rfl (TL.move rfl rfl (TL.done ⟨rfl, rfl⟩)) ?_
      refine TS.via rfl rfl rfl rfl (TL.move rfl rfl (TL.done ⟨rfl, rfl⟩)) ?_
      refine TS.via rfl rfl rfl rfl (TL.mul_i64 rfl rfl (by omega) (by omega) rfl (TL.done ⟨rfl, rfl⟩)) ?_
      refine TS.via rfl rfl rfl rfl (TL.add_i64 rfl rfl (by omega) (by omega) rfl (TL.done ⟨rfl, rfl⟩)) ?_
      refine TS.via rfl rfl rfl rfl (TL.indexAddr (4 * k + 1) sl50 rfl rfl (by first | rfl | omega) (by omega) rfl (TL.done ⟨rfl, rfl⟩)) ?_
      refine TS.via rfl rfl rfl rfl (TL.load pl5 rfl (byteIn had (by omega)) rfl (TL.done ⟨rfl, rfl⟩)) ?_
      refine TS.via rfl rfl rfl rfl (TL.conv_u32 Try.underlying5 Try.underlying80 rfl rfl (TL.done ⟨rfl, rfl⟩)) ?_
      refine TS.via rfl rfl rfl rfl (TL.shl_u32 rfl rfl (by decide) rfl (TL.done ⟨rfl, rfl⟩)) ?_
      refine TS.via rfl rfl rfl rfl (TL.or_u32 rfl rfl rfl (TL.done ⟨rfl, rfl⟩)) ?_
      refine TS.via rfl rfl rfl rfl (TL.move rfl rfl (TL.done ⟨rfl, rfl⟩)) ?_
      refine TS.via rfl rfl rfl rfl (TL.move rfl rfl (TL.done ⟨rfl, rfl⟩)) ?_
      refine TS.via rfl rfl rfl rfl (TL.mul_i64 rfl rfl (by omega) (by omega) rfl (TL.done ⟨rfl, rfl⟩)) ?_
      refine TS.via rfl rfl rfl rfl (TL.add_i64 rfl rfl (by omega) (by omega) rfl (TL.done ⟨rfl, rfl⟩)) ?_
      refine TS.via rfl rfl rfl rfl (TL.indexAddr (4 * k + 2) sl50 rfl rfl (by first | rfl | omega) (by omega) rfl (TL.done ⟨rfl, rfl⟩)) ?_
      refine TS.via rfl rfl rfl rfl (TL.load pl5 rfl (byteIn had (by omega)) rfl (TL.done ⟨rfl, rfl⟩)) ?_
      refine TS.via rfl rfl rfl rfl (TL.conv_u32 Try.underlying5 Try.underlying80 rfl rfl (TL.done ⟨rfl, rfl⟩)) ?_
      refine TS.via rfl rfl rfl rfl (TL.shl_u32 rfl rfl (by decide) rfl (TL.done ⟨rfl, rfl⟩)) ?_
      refine TS.via rfl rfl rfl rfl (TL.or_u32 rfl rfl rfl (TL.done ⟨rfl, rfl⟩)) ?_
      refine TS.via rfl rfl rfl rfl (TL.move rfl rfl (TL.done ⟨rfl, rfl⟩)) ?_
      refine TS.via rfl rfl rfl rfl (TL.move rfl rfl (TL.done ⟨rfl, rfl⟩)) ?_
      refine TS.via rfl rfl rfl rfl (TL.mul_i64 rfl rfl (by omega) (by omega) rfl (TL.done ⟨rfl, rfl⟩)) ?_
      refine TS.via rfl rfl rfl rfl (TL.add_i64 rfl rfl (by omega) (by omega) rfl (TL.done ⟨rfl, rfl⟩)) ?_
      refine TS.via rfl rfl rfl rfl (TL.indexAddr (4 * k + 3) sl50 rfl rfl (by first | rfl | omega) (by omega) rfl (TL.done ⟨rfl, rfl⟩)) ?_
      refine TS.via rfl rfl rfl rfl (TL.load pl5 rfl (byteIn had (by omega)) rfl (TL.done ⟨rfl, rfl⟩)) ?_
      refine TS.via rfl rfl rfl rfl (TL.conv_u32 Try.underlying5 Try.underlying80 rfl rfl (TL.done ⟨rfl, rfl⟩)) ?_
      refine TS.via rfl rfl rfl rfl (TL.or_u32 rfl rfl rfl (TL.done ⟨rfl, rfl⟩)) ?_
      refine TS.via rfl rfl rfl rfl (TL.indexArr (k) ar84 rfl rfl (by first | rfl | omega) (by omega) rfl (TL.done ⟨rfl, rfl⟩)) ?_
      refine TS.done ?_
      refine TL.store sz80 rfl rfl rfl (hcd) (by first | omega | simp [Value.cells]) (by simp [Value.cells, Value.oneCell']) (.inl rfl) (fun ws1 hbs1 hcs1 hzs1 => ?_)
      replace hbs1 := hbs1.setOne rfl (by omega)
      refine TL.done ?_
      refine Thn.go ?_
      refine TC.exit ?_
      refine Thn.exit ?_
      refine Blk.hit ?_
      refine Thn.go ?_
      refine TC.region ?_
      refine TL.add_i64 rfl rfl (by omega) (by omega) rfl ?_
      refine TL.move rfl rfl ?_
      refine TL.done ?_
      refine Lp.go (k + 1) (by repeat (first | exact trivial | refine ⟨rfl, ?_⟩)) ?_ (by first | omega | (dsimp only; omega))
      refine ⟨by omega, ⟨_, by simpa using hcs, hbs1, ?_⟩, (hch.trans0 (Ch.drew [] w')).then1 hcs1 (Nat.le_refl _)⟩
      have e : Sha.next l (Sha.ws l k) = Sha.word l (4 * k) := by rw [Sha.next, hwl, if_pos (by omega)]
      have := arr_push hget (by omega) (Sha.word l (4 * k))
      rw [Sha.ws, e, Nat.zero_add, Nat.mul_one]
      rw [hwl] at this
      exact this
    ·
      refine TC.skip ?_
      refine Thn.go ?_
      refine TC.seq ?_
      refine TC.regionQ (fun w2 => Ch [] w' w2) mixed0 (by kernel_rfl) (Ch.drew [] w') ?_
      refine TQ.via rfl rfl rfl rfl (fun w2 hw2 => TL.move rfl rfl (TL.done ⟨rfl, rfl⟩)) ?_
      refine TQ.via rfl rfl rfl rfl (fun w2 hw2 => TL.sub_i64 rfl rfl (by omega) (by omega) rfl (TL.done ⟨rfl, rfl⟩)) ?_
      refine TQ.via rfl rfl rfl rfl (fun w2 hw2 => TL.indexArr (k - 15) ar84 rfl rfl (by first | rfl | omega) (by omega) rfl (TL.done ⟨rfl, rfl⟩)) ?_
      refine TQ.via rfl rfl rfl rfl (fun w2 hw2 => TL.load pl80 rfl ((hA.ch0 hw2).get (map_getD _ _ 0 (by omega))) rfl (TL.done ⟨rfl, rfl⟩)) ?_
      refine TQ.via rfl rfl rfl rfl (fun w2 hw2 => TL.move rfl rfl (TL.done ⟨rfl, rfl⟩)) ?_
      refine TQ.via rfl rfl rfl rfl (fun w2 hw2 => TL.sub_i64 rfl rfl (by omega) (by omega) rfl (TL.done ⟨rfl, rfl⟩)) ?_
      refine TQ.via rfl rfl rfl rfl (fun w2 hw2 => TL.indexArr (k - 2) ar84 rfl rfl (by first | rfl | omega) (by omega) rfl (TL.done ⟨rfl, rfl⟩)) ?_
      refine TQ.via rfl rfl rfl rfl (fun w2 hw2 => TL.load pl80 rfl ((hA.ch0 hw2).get (map_getD _ _ 0 (by omega))) rfl (TL.done ⟨rfl, rfl⟩)) ?_
      refine TQ.via rfl rfl rfl rfl (fun w2 hw2 => TL.assign rfl rfl (TL.done ⟨rfl, rfl⟩)) ?_
      refine TQ.via rfl rfl rfl rfl (fun w2 hw2 => TL.assign rfl rfl (TL.done ⟨rfl, rfl⟩)) ?_
      refine TQ.done (fun w2 hw2 => ?_)
      refine Thn.go ?_
      refine TC.regionH (fun w3 => Ch [w.heap.size] w' w3 ∧ ArrL u32 w3 w.heap.size 84 64 (Sha.ws l k)) mixed0 ?_
      have hS : (fun w3 => Ch [w.heap.size] w' w3 ∧ ArrL u32 w3 w.heap.size 84 64 (Sha.ws l k)) _ := ⟨(hw2.trans0 (Ch.drew [] w2)).weaken (by simp), (hA.ch0 hw2).ch0 (Ch.drew [] w2)⟩
      refine TH.take (i := 0) rfl rfl rfl rfl rfl (by kernel_rfl) (by kernel_rfl) (by kernel_rfl) hS (fun w2 hw2 => TL.move rfl rfl (TL.done ⟨rfl, rfl⟩)) ?_
      refine TH.take (i := 1) rfl rfl rfl rfl rfl (by kernel_rfl) (by kernel_rfl) (by kernel_rfl) hS (fun w2 hw2 => TL.move rfl rfl (TL.done ⟨rfl, rfl⟩)) ?_
      refine TH.take (i := 2) rfl rfl rfl rfl rfl (by kernel_rfl) (by kernel_rfl) (by kernel_rfl) hS (fun w2 hw2 => TL.sub_i64 rfl rfl (by omega) (by omega) rfl (TL.done ⟨rfl, rfl⟩)) ?_
      refine TH.take (i := 3) rfl rfl rfl rfl rfl (by kernel_rfl) (by kernel_rfl) (by kernel_rfl) hS (fun w2 hw2 => TL.indexArr (k - 16) ar84 rfl rfl (by first | rfl | omega) (by omega) rfl (TL.done ⟨rfl, rfl⟩)) ?_
      refine TH.take (i := 4) rfl rfl rfl rfl rfl (by kernel_rfl) (by kernel_rfl) (by kernel_rfl) hS (fun w2 hw2 => TL.load pl80 rfl (hw2.2.get (map_getD _ _ 0 (by omega))) rfl (TL.done ⟨rfl, rfl⟩)) ?_
      refine TH.take (i := 5) rfl rfl rfl rfl rfl (by kernel_rfl) (by kernel_rfl) (by kernel_rfl) hS (fun w2 hw2 => TL.move rfl rfl (TL.done ⟨rfl, rfl⟩)) ?_
      refine TH.take (i := 7) rfl rfl rfl rfl rfl (by kernel_rfl) (by kernel_rfl) (by kernel_rfl) hS (fun w2 hw2 => TL.move rfl rfl (TL.done ⟨rfl, rfl⟩)) ?_
      refine TH.take (i := 10) rfl rfl rfl rfl rfl (by kernel_rfl) (by kernel_rfl) (by kernel_rfl) hS (fun w2 hw2 => TL.move rfl rfl (TL.done ⟨rfl, rfl⟩)) ?_
      refine TH.take (i := 11) rfl rfl rfl rfl rfl (by kernel_rfl) (by kernel_rfl) (by kernel_rfl) hS (fun w2 hw2 => TL.shr_u32 rfl rfl (by decide) rfl (TL.done ⟨rfl, rfl⟩)) ?_
      refine TH.take (i := 14) rfl rfl rfl rfl rfl (by kernel_rfl) (by kernel_rfl) (by kernel_rfl) hS (fun w2 hw2 => TL.move rfl rfl (TL.done ⟨rfl, rfl⟩)) ?_
      refine TH.take (i := 15) rfl rfl rfl rfl rfl (by kernel_rfl) (by kernel_rfl) (by kernel_rfl) hS (fun w2 hw2 => TL.sub_i64 rfl rfl (by omega) (by omega) rfl (TL.done ⟨rfl, rfl⟩)) ?_
      refine TH.take (i := 16) rfl rfl rfl rfl rfl (by kernel_rfl) (by kernel_rfl) (by kernel_rfl) hS (fun w2 hw2 => TL.indexArr (k - 7) ar84 rfl rfl (by first | rfl | omega) (by omega) rfl (TL.done ⟨rfl, rfl⟩)) ?_
      refine TH.take (i := 17) rfl rfl rfl rfl rfl (by kernel_rfl) (by kernel_rfl) (by kernel_rfl) hS (fun w2 hw2 => TL.load pl80 rfl (hw2.2.get (map_getD _ _ 0 (by omega))) rfl (TL.done ⟨rfl, rfl⟩)) ?_
      refine TH.take (i := 19) rfl rfl rfl rfl rfl (by kernel_rfl) (by kernel_rfl) (by kernel_rfl) hS (fun w2 hw2 => TL.move rfl rfl (TL.done ⟨rfl, rfl⟩)) ?_
      refine TH.take (i := 21) rfl rfl rfl rfl rfl (by kernel_rfl) (by kernel_rfl) (by kernel_rfl) hS (fun w2 hw2 => TL.move rfl rfl (TL.done ⟨rfl, rfl⟩)) ?_
      refine TH.take (i := 24) rfl rfl rfl rfl rfl (by kernel_rfl) (by kernel_rfl) (by kernel_rfl) hS (fun w2 hw2 => TL.move rfl rfl (TL.done ⟨rfl, rfl⟩)) ?_
      refine TH.take (i := 25) rfl rfl rfl rfl rfl (by kernel_rfl) (by kernel_rfl) (by kernel_rfl) hS (fun w2 hw2 => TL.shr_u32 rfl rfl (by decide) rfl (TL.done ⟨rfl, rfl⟩)) ?_
      refine TH.one (i := 6) (by kernel_rfl) rfl rfl ?_
      refine TL.call can64 rfl rfl (fn64 _ 7 (by decide) (by decide) _) (fun v73 w73 hr73 => ?_)
      obtain ⟨rfl, rfl⟩ := hr73
      have hS : (fun w3 => Ch [w.heap.size] w' w3 ∧ ArrL u32 w3 w.heap.size 84 64 (Sha.ws l k)) _ := hS
      refine TL.done ⟨hS, ?_⟩
      refine TH.one (i := 8) (by kernel_rfl) rfl rfl ?_
      refine TL.call can64 rfl rfl (fn64 _ 18 (by decide) (by decide) _) (fun v75 w75 hr75 => ?_)
      obtain ⟨rfl, rfl⟩ := hr75
      have hS : (fun w3 => Ch [w.heap.size] w' w3 ∧ ArrL u32 w3 w.heap.size 84 64 (Sha.ws l k)) _ := hS
      refine TL.done ⟨hS, ?_⟩
      refine TH.take (i := 9) rfl rfl rfl rfl rfl (by kernel_rfl) (by kernel_rfl) (by kernel_rfl) hS (fun w2 hw2 => TL.xor_u32 rfl rfl rfl (TL.done ⟨rfl, rfl⟩)) ?_
      refine TH.take (i := 12) rfl rfl rfl rfl rfl (by kernel_rfl) (by kernel_rfl) (by kernel_rfl) hS (fun w2 hw2 => TL.xor_u32 rfl rfl rfl (TL.done ⟨rfl, rfl⟩)) ?_
      refine TH.take (i := 13) rfl rfl rfl rfl rfl (by kernel_rfl) (by kernel_rfl) (by kernel_rfl) hS (fun w2 hw2 => TL.add_u32 rfl rfl rfl (TL.done ⟨rfl, rfl⟩)) ?_
      refine TH.take (i := 18) rfl rfl rfl rfl rfl (by kernel_rfl) (by kernel_rfl) (by kernel_rfl) hS (fun w2 hw2 => TL.add_u32 rfl rfl rfl (TL.done ⟨rfl, rfl⟩)) ?_
      refine TH.one (i := 20) (by kernel_rfl) rfl rfl ?_
      refine TL.call can64 rfl rfl (fn64 _ 17 (by decide) (by decide) _) (fun v87 w87 hr87 => ?_)
      obtain ⟨rfl, rfl⟩ := hr87
      have hS : (fun w3 => Ch [w.heap.size] w' w3 ∧ ArrL u32 w3 w.heap.size 84 64 (Sha.ws l k)) _ := hS
      refine TL.done ⟨hS, ?_⟩
      refine TH.one (i := 22) (by kernel_rfl) rfl rfl ?_
      refine TL.call can64 rfl rfl (fn64 _ 19 (by decide) (by decide) _) (fun v89 w89 hr89 => ?_)
      obtain ⟨rfl, rfl⟩ := hr89
      have hS : (fun w3 => Ch [w.heap.size] w' w3 ∧ ArrL u32 w3 w.heap.size 84 64 (Sha.ws l k)) _ := hS
      refine TL.done ⟨hS, ?_⟩
      refine TH.take (i := 23) rfl rfl rfl rfl rfl (by kernel_rfl) (by kernel_rfl) (by kernel_rfl) hS (fun w2 hw2 => TL.xor_u32 rfl rfl rfl (TL.done ⟨rfl, rfl⟩)) ?_
      refine TH.take (i := 26) rfl rfl rfl rfl rfl (by kernel_rfl) (by kernel_rfl) (by kernel_rfl) hS (fun w2 hw2 => TL.xor_u32 rfl rfl rfl (TL.done ⟨rfl, rfl⟩)) ?_
      refine TH.take (i := 27) rfl rfl rfl rfl rfl (by kernel_rfl) (by kernel_rfl) (by kernel_rfl) hS (fun w2 hw2 => TL.add_u32 rfl rfl rfl (TL.done ⟨rfl, rfl⟩)) ?_
      refine TH.take (i := 28) rfl rfl rfl rfl rfl (by kernel_rfl) (by kernel_rfl) (by kernel_rfl) hS (fun w2 hw2 => TL.indexArr (k) ar84 rfl rfl (by first | rfl | omega) (by omega) rfl (TL.done ⟨rfl, rfl⟩)) ?_
      refine TH.one (i := 29) (by kernel_rfl) rfl rfl ?_
      obtain ⟨cur, hcs, hcur, hget⟩ := hS.2
      refine TL.store sz80 rfl rfl rfl (hcur) (by first | omega | simp [Value.cells]) (by simp [Value.cells, Value.oneCell']) (.inl rfl) (fun ws2 hbs2 hcs2 hzs2 => ?_)
      replace hbs2 := hbs2.setOne rfl (by omega)
      have hS : (fun w3 => Ch [w.heap.size] w' w3 ∧ ArrL u32 w3 w.heap.size 84 64 (Sha.ws l k)) _ := ⟨hS.1.trans hcs2 (fun _ h _ => h) (fun _ h _ => h), ⟨_, by simpa using hcs, hbs2, arr_keep hget (by omega) _⟩⟩
      refine TL.done ⟨hS, ?_⟩
      refine TH.done (by kernel_rfl) ?_
      refine Blk.go ?_
      refine Thn.go ?_
      refine TC.region ?_
      refine TL.add_i64 rfl rfl (by omega) (by omega) rfl ?_
      refine TL.move rfl rfl ?_
      refine TL.done ?_
      refine Lp.go (k + 1) (by repeat (first | exact trivial | refine ⟨rfl, ?_⟩)) ?_ (by first | omega | (dsimp only; omega))
      refine ⟨by omega, ⟨_, by simpa using hcs, hbs2, ?_⟩, hch.thenS hS.1 (by simp)⟩
      have e : Sha.next l (Sha.ws l k) = (Sha.ws l k).getD (k - 16) 0 + Sha.sig0 ((Sha.ws l k).getD (k - 15) 0) + (Sha.ws l k).getD (k - 7) 0 + Sha.sig1 ((Sha.ws l k).getD (k - 2) 0) := by rw [Sha.next, hwl, if_neg (by omega)]
      have := arr_push hget (by omega) ((Sha.ws l k).getD (k - 16) 0 + Sha.sig0 ((Sha.ws l k).getD (k - 15) 0) + (Sha.ws l k).getD (k - 7) 0 + Sha.sig1 ((Sha.ws l k).getD (k - 2) 0))
      rw [Sha.ws, e, Nat.zero_add, Nat.mul_one]
      rw [hwl] at this
      exact this
  ·
    have hk64 : k = 64 := by omega
    subst hk64
    have hW := hA.full hwl
    have hh1 : Has w' hb (h.map u32).toArray 82 (0, 0) := hhb.ch0 hch
    refine TC.exit ?_
    refine Thn.exit ?_
    refine Lp.exit ?_
    refine Blk.hit ?_
    refine Thn.go ?_
    refine TC.seq ?_
    refine TC.region ?_
    refine TL.move rfl rfl ?_
    refine TL.nilCheck rfl rfl ?_
    refine TL.loadAgg (h.map u32) ag82 rfl (by simpa using hh) (fun j _ => by rw [hh1.cell, Nat.zero_add, List.getElem?_toArray]) rfl ?_
    refine TL.alloc ze82 rfl (fun w10 hb10 hc10 hz10 => ?_)
    refine TL.store sz82 rfl rfl (by simpa [Value.cells] using hh) hb10 (by simp [Value.cells]) (by simpa [Value.cells] using one_u32 h) (.inl rfl) (fun ws3 hbs3 hcs3 hzs3 => ?_)
    replace hbs3 : Has ws3 w'.heap.size (h.map u32).toArray 82 (0, 0) := hbs3.setAll (by simp [Value.cells, hh])
    have hch3 : Ch [] w' ws3 := hc10.then1 hcs3 (Nat.le_refl _)
    refine TL.done ?_
    refine Thn.go ?_
    refine TC.seq ?_
    refine TC.seq ?_
    refine TC.region ?_
    refine TL.loadAgg ((Sha.ws l 64).map u32) ag84 rfl (by simp [Sha.ws_len]) (fun j _ => by rw [(hW.ch0 hch3).cell, Nat.zero_add, List.getElem?_toArray]) rfl ?_
    refine TL.move rfl rfl ?_
    refine TL.done ?_
    refine Thn.go ?_
    refine TC.block ?_
    refine TC.loop1 (fun (i : Nat) => [(0, .pointer (some ⟨hb, 0, none⟩)), (2, .pointer (some ⟨kb, 0, none⟩)), (10, .pointer (some ⟨w'.heap.size, 0, none⟩)), (100, .agg ((Sha.ws l 64).map u32).toArray), (101, .int .i64 (i : Int))]) (fun i w2 => i ≤ 64 ∧ Has w2 w'.heap.size ((Sha.steps l h i).map u32).toArray 82 (0, 0) ∧ Ch [] w' w2) (fun i => 64 - i) 0 (by repeat (first | exact trivial | refine ⟨rfl, ?_⟩)) (⟨by omega, hbs3, hch3⟩) (fun i w2 hH => ?_)
    obtain ⟨hi, hV, hch2⟩ := hH
    have hvl := Sha.steps_len l hh i
    obtain ⟨V, hVe⟩ : ∃ V, Sha.steps l h i = V := ⟨_, rfl⟩
    rw [hVe] at hV hvl
    have hAV : ArrL u32 w2 w'.heap.size 82 8 V := ArrL.ofFull hV hvl
    have hkk : ArrL u32 w2 kb 84 64 Sha.ks := ((ArrL.ofFull hkb rfl).ch0 hch).ch0 hch2
    refine TC.seq ?_
    refine TC.region ?_
    refine TL.lss rfl rfl rfl ?_
    refine TL.done ?_
    refine Thn.go ?_
    refine TC.seq ?_
    refine TC.condP rfl (fun h3 => ?_) (fun h3 => ?_)
    ·
      refine TC.skip ?_
      refine Thn.go ?_
      refine TC.seq ?_
      refine TC.block ?_
      refine TC.seq ?_
      refine TC.region ?_
      refine TL.move rfl rfl ?_
      refine TL.index (i) av84 rfl rfl (by first | rfl | omega) (by omega) (by rw [List.getElem?_toArray, List.getElem?_map, map_getD _ i 0 (by rw [Sha.ws_len]; omega)]; rfl) rfl ?_
      refine TL.assign rfl rfl ?_
      refine TL.assign rfl rfl ?_
      refine TL.done ?_
      refine Thn.go ?_
      refine TC.seq ?_
      refine TC.regionQ (fun w3 => Ch [] w2 w3) mixed0 (by kernel_rfl) (Ch.drew [] w2) ?_
      refine TQ.via rfl rfl rfl rfl (fun w2 hw2 => TL.indexArr (0) ar82 rfl rfl (by first | rfl | omega) (by omega) rfl (TL.done ⟨rfl, rfl⟩)) ?_
      refine TQ.via rfl rfl rfl rfl (fun w2 hw2 => TL.load pl80 rfl ((hAV.ch0 hw2).get (map_getD _ 0 0 (by omega))) rfl (TL.done ⟨rfl, rfl⟩)) ?_
      refine TQ.via rfl rfl rfl rfl (fun w2 hw2 => TL.indexArr (4) ar82 rfl rfl (by first | rfl | omega) (by omega) rfl (TL.done ⟨rfl, rfl⟩)) ?_
      refine TQ.via rfl rfl rfl rfl (fun w2 hw2 => TL.load pl80 rfl ((hAV.ch0 hw2).get (map_getD _ 4 0 (by omega))) rfl (TL.done ⟨rfl, rfl⟩)) ?_
      refine TQ.via rfl rfl rfl rfl (fun w2 hw2 => TL.assign rfl rfl (TL.done ⟨rfl, rfl⟩)) ?_
      refine TQ.via rfl rfl rfl rfl (fun w2 hw2 => TL.assign rfl rfl (TL.done ⟨rfl, rfl⟩)) ?_
      refine TQ.done (fun w2 hw2 => ?_)
      have hAV1 := hAV.ch0 hw2
      have hkk1 := hkk.ch0 hw2
      have hq1 := hch2.trans0 hw2
      refine Thn.go ?_
      refine TC.seq ?_
      refine TC.regionH (fun w3 => Ch [] w2 w3) mixed0 ?_
      have hS : (fun w3 => Ch [] w2 w3) _ := Ch.drew [] w2
      refine TH.take (i := 0) rfl rfl rfl rfl rfl (by kernel_rfl) (by kernel_rfl) (by kernel_rfl) hS (fun w2 hw2 => TL.indexArr (7) ar82 rfl rfl (by first | rfl | omega) (by omega) rfl (TL.done ⟨rfl, rfl⟩)) ?_
      refine TH.take (i := 1) rfl rfl rfl rfl rfl (by kernel_rfl) (by kernel_rfl) (by kernel_rfl) hS (fun w2 hw2 => TL.load pl80 rfl ((hAV1.ch0 hw2).get (map_getD _ 7 0 (by omega))) rfl (TL.done ⟨rfl, rfl⟩)) ?_
      refine TH.take (i := 2) rfl rfl rfl rfl rfl (by kernel_rfl) (by kernel_rfl) (by kernel_rfl) hS (fun w2 hw2 => TL.move rfl rfl (TL.done ⟨rfl, rfl⟩)) ?_
      refine TH.take (i := 4) rfl rfl rfl rfl rfl (by kernel_rfl) (by kernel_rfl) (by kernel_rfl) hS (fun w2 hw2 => TL.move rfl rfl (TL.done ⟨rfl, rfl⟩)) ?_
      refine TH.take (i := 7) rfl rfl rfl rfl rfl (by kernel_rfl) (by kernel_rfl) (by kernel_rfl) hS (fun w2 hw2 => TL.move rfl rfl (TL.done ⟨rfl, rfl⟩)) ?_
      refine TH.take (i := 11) rfl rfl rfl rfl rfl (by kernel_rfl) (by kernel_rfl) (by kernel_rfl) hS (fun w2 hw2 => TL.move rfl rfl (TL.done ⟨rfl, rfl⟩)) ?_
      refine TH.take (i := 12) rfl rfl rfl rfl rfl (by kernel_rfl) (by kernel_rfl) (by kernel_rfl) hS (fun w2 hw2 => TL.indexArr (5) ar82 rfl rfl (by first | rfl | omega) (by omega) rfl (TL.done ⟨rfl, rfl⟩)) ?_
      refine TH.take (i := 13) rfl rfl rfl rfl rfl (by kernel_rfl) (by kernel_rfl) (by kernel_rfl) hS (fun w2 hw2 => TL.load pl80 rfl ((hAV1.ch0 hw2).get (map_getD _ 5 0 (by omega))) rfl (TL.done ⟨rfl, rfl⟩)) ?_
      refine TH.take (i := 14) rfl rfl rfl rfl rfl (by kernel_rfl) (by kernel_rfl) (by kernel_rfl) hS (fun w2 hw2 => TL.and_u32 rfl rfl rfl (TL.done ⟨rfl, rfl⟩)) ?_
      refine TH.take (i := 15) rfl rfl rfl rfl rfl (by kernel_rfl) (by kernel_rfl) (by kernel_rfl) hS (fun w2 hw2 => TL.move rfl rfl (TL.done ⟨rfl, rfl⟩)) ?_
      refine TH.take (i := 16) rfl rfl rfl rfl rfl (by kernel_rfl) (by kernel_rfl) (by kernel_rfl) hS (fun w2 hw2 => TL.compl_u32 rfl rfl (TL.done ⟨rfl, rfl⟩)) ?_
      refine TH.take (i := 17) rfl rfl rfl rfl rfl (by kernel_rfl) (by kernel_rfl) (by kernel_rfl) hS (fun w2 hw2 => TL.indexArr (6) ar82 rfl rfl (by first | rfl | omega) (by omega) rfl (TL.done ⟨rfl, rfl⟩)) ?_
      refine TH.take (i := 18) rfl rfl rfl rfl rfl (by kernel_rfl) (by kernel_rfl) (by kernel_rfl) hS (fun w2 hw2 => TL.load pl80 rfl ((hAV1.ch0 hw2).get (map_getD _ 6 0 (by omega))) rfl (TL.done ⟨rfl, rfl⟩)) ?_
      refine TH.take (i := 19) rfl rfl rfl rfl rfl (by kernel_rfl) (by kernel_rfl) (by kernel_rfl) hS (fun w2 hw2 => TL.and_u32 rfl rfl rfl (TL.done ⟨rfl, rfl⟩)) ?_
      refine TH.take (i := 20) rfl rfl rfl rfl rfl (by kernel_rfl) (by kernel_rfl) (by kernel_rfl) hS (fun w2 hw2 => TL.xor_u32 rfl rfl rfl (TL.done ⟨rfl, rfl⟩)) ?_
      refine TH.take (i := 22) rfl rfl rfl rfl rfl (by kernel_rfl) (by kernel_rfl) (by kernel_rfl) hS (fun w2 hw2 => TL.move rfl rfl (TL.done ⟨rfl, rfl⟩)) ?_
      refine TH.takeNil (i := 24) rfl rfl rfl (by kernel_rfl) (by kernel_rfl) (by kernel_rfl) hS ?_
      refine TH.take (i := 23) rfl rfl rfl rfl rfl (by kernel_rfl) (by kernel_rfl) (by kernel_rfl) hS (fun w2 hw2 => TL.move rfl rfl (TL.done ⟨rfl, rfl⟩)) ?_
      refine TH.take (i := 25) rfl rfl rfl rfl rfl (by kernel_rfl) (by kernel_rfl) (by kernel_rfl) hS (fun w2 hw2 => TL.indexArr (i) ar84 rfl rfl (by first | rfl | omega) (by omega) rfl (TL.done ⟨rfl, rfl⟩)) ?_
      refine TH.take (i := 26) rfl rfl rfl rfl rfl (by kernel_rfl) (by kernel_rfl) (by kernel_rfl) hS (fun w2 hw2 => TL.load pl80 rfl ((hkk1.ch0 hw2).get (map_getD _ i 0 (by show i < 64; omega))) rfl (TL.done ⟨rfl, rfl⟩)) ?_
      refine TH.take (i := 28) rfl rfl rfl rfl rfl (by kernel_rfl) (by kernel_rfl) (by kernel_rfl) hS (fun w2 hw2 => TL.move rfl rfl (TL.done ⟨rfl, rfl⟩)) ?_
      refine TH.one (i := 3) (by kernel_rfl) rfl rfl ?_
      refine TL.call can64 rfl rfl (fn64 _ 6 (by decide) (by decide) _) (fun v112 w112 hr112 => ?_)
      obtain ⟨rfl, rfl⟩ := hr112
      have hS : (fun w3 => Ch [] w2 w3) _ := hS
      refine TL.done ⟨hS, ?_⟩
      refine TH.one (i := 5) (by kernel_rfl) rfl rfl ?_
      refine TL.call can64 rfl rfl (fn64 _ 11 (by decide) (by decide) _) (fun v114 w114 hr114 => ?_)
      obtain ⟨rfl, rfl⟩ := hr114
      have hS : (fun w3 => Ch [] w2 w3) _ := hS
      refine TL.done ⟨hS, ?_⟩
      refine TH.take (i := 6) rfl rfl rfl rfl rfl (by kernel_rfl) (by kernel_rfl) (by kernel_rfl) hS (fun w2 hw2 => TL.xor_u32 rfl rfl rfl (TL.done ⟨rfl, rfl⟩)) ?_
      refine TH.one (i := 8) (by kernel_rfl) rfl rfl ?_
      refine TL.call can64 rfl rfl (fn64 _ 25 (by decide) (by decide) _) (fun v117 w117 hr117 => ?_)
      obtain ⟨rfl, rfl⟩ := hr117
      have hS : (fun w3 => Ch [] w2 w3) _ := hS
      refine TL.done ⟨hS, ?_⟩
      refine TH.take (i := 9) rfl rfl rfl rfl rfl (by kernel_rfl) (by kernel_rfl) (by kernel_rfl) hS (fun w2 hw2 => TL.xor_u32 rfl rfl rfl (TL.done ⟨rfl, rfl⟩)) ?_
      refine TH.take (i := 10) rfl rfl rfl rfl rfl (by kernel_rfl) (by kernel_rfl) (by kernel_rfl) hS (fun w2 hw2 => TL.add_u32 rfl rfl rfl (TL.done ⟨rfl, rfl⟩)) ?_
      refine TH.take (i := 21) rfl rfl rfl rfl rfl (by kernel_rfl) (by kernel_rfl) (by kernel_rfl) hS (fun w2 hw2 => TL.add_u32 rfl rfl rfl (TL.done ⟨rfl, rfl⟩)) ?_
      refine TH.take (i := 27) rfl rfl rfl rfl rfl (by kernel_rfl) (by kernel_rfl) (by kernel_rfl) hS (fun w2 hw2 => TL.add_u32 rfl rfl rfl (TL.done ⟨rfl, rfl⟩)) ?_
      refine TH.take (i := 29) rfl rfl rfl rfl rfl (by kernel_rfl) (by kernel_rfl) (by kernel_rfl) hS (fun w2 hw2 => TL.add_u32 rfl rfl rfl (TL.done ⟨rfl, rfl⟩)) ?_
      refine TH.take (i := 30) rfl rfl rfl rfl rfl (by kernel_rfl) (by kernel_rfl) (by kernel_rfl) hS (fun w2 hw2 => TL.assign rfl rfl (TL.done ⟨rfl, rfl⟩)) ?_
      refine TH.done (by kernel_rfl) ?_
      refine Thn.go ?_
      refine TC.seq ?_
      refine TC.regionQ (fun w4 => Ch [] w2 w4) mixed0 (by kernel_rfl) ((Ch.drew [] w2).trans0 (Ch.drew [] _)) ?_
      refine TQ.via rfl rfl rfl rfl (fun w2 hw2 => TL.move rfl rfl (TL.done ⟨rfl, rfl⟩)) ?_
      refine TQ.call (u32 (Sha.rot (V.getD 0 0) 2)) can64 rfl rfl (fun w2 hw2 => (fn64 _ 2 (by decide) (by decide) w2).mono (fun _ _ ⟨q1, q2⟩ => ⟨q1, by rw [q2]; exact hw2⟩)) ?_
      refine TQ.via rfl rfl rfl rfl (fun w2 hw2 => TL.move rfl rfl (TL.done ⟨rfl, rfl⟩)) ?_
      refine TQ.call (u32 (Sha.rot (V.getD 0 0) 13)) can64 rfl rfl (fun w2 hw2 => (fn64 _ 13 (by decide) (by decide) w2).mono (fun _ _ ⟨q1, q2⟩ => ⟨q1, by rw [q2]; exact hw2⟩)) ?_
      refine TQ.via rfl rfl rfl rfl (fun w2 hw2 => TL.xor_u32 rfl rfl rfl (TL.done ⟨rfl, rfl⟩)) ?_
      refine TQ.via rfl rfl rfl rfl (fun w2 hw2 => TL.move rfl rfl (TL.done ⟨rfl, rfl⟩)) ?_
      refine TQ.call (u32 (Sha.rot (V.getD 0 0) 22)) can64 rfl rfl (fun w2 hw2 => (fn64 _ 22 (by decide) (by decide) w2).mono (fun _ _ ⟨q1, q2⟩ => ⟨q1, by rw [q2]; exact hw2⟩)) ?_
      refine TQ.via rfl rfl rfl rfl (fun w2 hw2 => TL.xor_u32 rfl rfl rfl (TL.done ⟨rfl, rfl⟩)) ?_
      refine TQ.via rfl rfl rfl rfl (fun w2 hw2 => TL.move rfl rfl (TL.done ⟨rfl, rfl⟩)) ?_
      refine TQ.via rfl rfl rfl rfl (fun w2 hw2 => TL.indexArr (1) ar82 rfl rfl (by first | rfl | omega) (by omega) rfl (TL.done ⟨rfl, rfl⟩)) ?_
      refine TQ.via rfl rfl rfl rfl (fun w2 hw2 => TL.load pl80 rfl ((hAV1.ch0 hw2).get (map_getD _ 1 0 (by omega))) rfl (TL.done ⟨rfl, rfl⟩)) ?_
      refine TQ.via rfl rfl rfl rfl (fun w2 hw2 => TL.and_u32 rfl rfl rfl (TL.done ⟨rfl, rfl⟩)) ?_
      refine TQ.via rfl rfl rfl rfl (fun w2 hw2 => TL.move rfl rfl (TL.done ⟨rfl, rfl⟩)) ?_
      refine TQ.via rfl rfl rfl rfl (fun w2 hw2 => TL.indexArr (2) ar82 rfl rfl (by first | rfl | omega) (by omega) rfl (TL.done ⟨rfl, rfl⟩)) ?_
      refine TQ.via rfl rfl rfl rfl (fun w2 hw2 => TL.load pl80 rfl ((hAV1.ch0 hw2).get (map_getD _ 2 0 (by omega))) rfl (TL.done ⟨rfl, rfl⟩)) ?_
      refine TQ.via rfl rfl rfl rfl (fun w2 hw2 => TL.and_u32 rfl rfl rfl (TL.done ⟨rfl, rfl⟩)) ?_
      refine TQ.via rfl rfl rfl rfl (fun w2 hw2 => TL.xor_u32 rfl rfl rfl (TL.done ⟨rfl, rfl⟩)) ?_
      refine TQ.via rfl rfl rfl rfl (fun w2 hw2 => TL.indexArr (1) ar82 rfl rfl (by first | rfl | omega) (by omega) rfl (TL.done ⟨rfl, rfl⟩)) ?_
      refine TQ.via rfl rfl rfl rfl (fun w2 hw2 => TL.load pl80 rfl ((hAV1.ch0 hw2).get (map_getD _ 1 0 (by omega))) rfl (TL.done ⟨rfl, rfl⟩)) ?_
      refine TQ.via rfl rfl rfl rfl (fun w2 hw2 => TL.indexArr (2) ar82 rfl rfl (by first | rfl | omega) (by omega) rfl (TL.done ⟨rfl, rfl⟩)) ?_
      refine TQ.via rfl rfl rfl rfl (fun w2 hw2 => TL.load pl80 rfl ((hAV1.ch0 hw2).get (map_getD _ 2 0 (by omega))) rfl (TL.done ⟨rfl, rfl⟩)) ?_
      refine TQ.via rfl rfl rfl rfl (fun w2 hw2 => TL.and_u32 rfl rfl rfl (TL.done ⟨rfl, rfl⟩)) ?_
      refine TQ.via rfl rfl rfl rfl (fun w2 hw2 => TL.xor_u32 rfl rfl rfl (TL.done ⟨rfl, rfl⟩)) ?_
      refine TQ.via rfl rfl rfl rfl (fun w2 hw2 => TL.add_u32 rfl rfl rfl (TL.done ⟨rfl, rfl⟩)) ?_
      refine TQ.via rfl rfl rfl rfl (fun w2 hw2 => TL.assign rfl rfl (TL.done ⟨rfl, rfl⟩)) ?_
      refine TQ.done (fun w2 hw2 => ?_)
      have hAV3 := hAV1.ch0 hw2
      have hq3 := hq1.trans0 hw2
      refine Thn.go ?_
      refine TC.region ?_
      refine TL.move rfl rfl ?_
      refine TL.move rfl rfl ?_
      refine TL.add_u32 rfl rfl rfl ?_
      refine TL.move rfl rfl ?_
      refine TL.indexArr (1) ar82 rfl rfl (by first | rfl | omega) (by omega) rfl ?_
      refine TL.load pl80 rfl (hAV3.get (map_getD _ 1 0 (by omega))) rfl ?_
      refine TL.indexArr (2) ar82 rfl rfl (by first | rfl | omega) (by omega) rfl ?_
      refine TL.load pl80 rfl (hAV3.get (map_getD _ 2 0 (by omega))) rfl ?_
      refine TL.indexArr (3) ar82 rfl rfl (by first | rfl | omega) (by omega) rfl ?_
      refine TL.load pl80 rfl (hAV3.get (map_getD _ 3 0 (by omega))) rfl ?_
      refine TL.move rfl rfl ?_
      refine TL.add_u32 rfl rfl rfl ?_
      refine TL.move rfl rfl ?_
      refine TL.indexArr (5) ar82 rfl rfl (by first | rfl | omega) (by omega) rfl ?_
      refine TL.load pl80 rfl (hAV3.get (map_getD _ 5 0 (by omega))) rfl ?_
      refine TL.indexArr (6) ar82 rfl rfl (by first | rfl | omega) (by omega) rfl ?_
      refine TL.load pl80 rfl (hAV3.get (map_getD _ 6 0 (by omega))) rfl ?_
      refine TL.buildArr [.tmp 165, .tmp 166, .tmp 168, .tmp 170, .tmp 174, .tmp 175, .tmp 177, .tmp 179] Try.underlying82 sz80 ze82 rfl rfl rfl (by simp [Value.cells]) rfl ?_
      refine TL.top (v' := .agg ((Sha.step V (Sha.ks.getD i 0) ((Sha.ws l 64).getD i 0)).map u32).toArray) rfl ?_
      refine TL.store sz82 rfl rfl rfl (hAV3.full hvl) (by simp [hvl]) (by simpa [Value.cells] using one_u32 (Sha.step V (Sha.ks.getD i 0) ((Sha.ws l 64).getD i 0))) (.inl rfl) (fun ws4 hbs4 hcs4 hzs4 => ?_)
      replace hbs4 : Has ws4 w'.heap.size ((Sha.steps l h (i + 1)).map u32).toArray 82 (0, 0) := by
        rw [Sha.steps, hVe]
        exact hbs4.setAll (by simp [Value.cells, hvl, Sha.step])
      refine TL.done ?_
      refine Blk.go ?_
      refine Thn.go ?_
      refine TC.region ?_
      refine TL.add_i64 rfl rfl (by omega) (by omega) rfl ?_
      refine TL.move rfl rfl ?_
      refine TL.done ?_
      refine Lp.go (i + 1) (by repeat (first | exact trivial | refine ⟨rfl, ?_⟩)) ?_ (by first | omega | (dsimp only; omega))
      exact ⟨by omega, hbs4, hq3.then1 hcs4 (Nat.le_refl _)⟩
    ·
      have hi64 : i = 64 := by omega
      subst hi64
      refine TC.exit ?_
      refine Thn.exit ?_
      refine Lp.exit ?_
      refine Blk.hit ?_
      refine Thn.go ?_
      refine TC.seq ?_
      refine TC.region ?_
      refine TL.loadAgg (V.map u32) ag82 rfl (by simpa using hvl) (fun j _ => by rw [hV.cell, Nat.zero_add, List.getElem?_toArray]) rfl ?_
      refine TL.move rfl rfl ?_
      refine TL.done ?_
      refine Thn.go ?_
      refine TC.block ?_
      refine TC.loop1 (fun (j : Nat) => [(0, .pointer (some ⟨hb, 0, none⟩)), (182, .agg (V.map u32).toArray), (183, .int .i64 (j : Int))]) (fun j w3 => j ≤ 8 ∧ Has w3 hb (((Sha.addL h V).take j ++ h.drop j).map u32).toArray 82 (0, 0) ∧ Ch [hb] w w3) (fun j => 8 - j) 0 (by repeat (first | exact trivial | refine ⟨rfl, ?_⟩)) (⟨by omega, by simpa using hh1.ch0 hch2, (hch.trans0 hch2).weaken (by simp)⟩) (fun j w3 hH => ?_)
      obtain ⟨hj, hM, hcm⟩ := hH
      refine TC.seq ?_
      refine TC.region ?_
      refine TL.lss rfl rfl rfl ?_
      refine TL.done ?_
      refine Thn.go ?_
      refine TC.seq ?_
      refine TC.condP rfl (fun h4 => ?_) (fun h4 => ?_)
      ·
        have hj8 : j < 8 := by omega
        have hMd : Has w3.drew hb (((Sha.addL h V).take j ++ h.drop j).map u32).toArray 82 (0, 0) := hM
        refine TC.skip ?_
        refine Thn.go ?_
        refine TC.seq ?_
        refine TC.block ?_
        refine TC.seq ?_
        refine TC.region ?_
        refine TL.move rfl rfl ?_
        refine TL.index (j) av82 rfl rfl (by first | rfl | omega) (by omega) (by rw [List.getElem?_toArray, List.getElem?_map, map_getD V j 0 (by omega)]; rfl) rfl ?_
        refine TL.assign rfl rfl ?_
        refine TL.assign rfl rfl ?_
        refine TL.done ?_
        refine Thn.go ?_
        refine TC.regionH (fun w4 => Ch [hb] w w4) mixed0 ?_
        have hS : (fun w4 => Ch [hb] w w4) _ := hcm.trans (Ch.drew [] w3) (by simp) (by simp)
        refine TH.take (i := 0) rfl rfl rfl rfl rfl (by kernel_rfl) (by kernel_rfl) (by kernel_rfl) hS (fun w2 hw2 => TL.move rfl rfl (TL.done ⟨rfl, rfl⟩)) ?_
        refine TH.takeNil (i := 2) rfl rfl rfl (by kernel_rfl) (by kernel_rfl) (by kernel_rfl) hS ?_
        refine TH.takeNil (i := 7) rfl rfl rfl (by kernel_rfl) (by kernel_rfl) (by kernel_rfl) hS ?_
        refine TH.take (i := 1) rfl rfl rfl rfl rfl (by kernel_rfl) (by kernel_rfl) (by kernel_rfl) hS (fun w2 hw2 => TL.move rfl rfl (TL.done ⟨rfl, rfl⟩)) ?_
        refine TH.take (i := 3) rfl rfl rfl rfl rfl (by kernel_rfl) (by kernel_rfl) (by kernel_rfl) hS (fun w2 hw2 => TL.indexArr (j) ar82 rfl rfl (by first | rfl | omega) (by omega) rfl (TL.done ⟨rfl, rfl⟩)) ?_
        refine TH.take (i := 5) rfl rfl rfl rfl rfl (by kernel_rfl) (by kernel_rfl) (by kernel_rfl) hS (fun w2 hw2 => TL.move rfl rfl (TL.done ⟨rfl, rfl⟩)) ?_
        refine TH.one (i := 4) (by kernel_rfl) rfl rfl ?_
        refine TL.load pl80 rfl (by rw [hMd.cell, Nat.zero_add, Nat.mul_one, List.getElem?_toArray, List.getElem?_map, Sha.mid hh (Sha.addL_len h V) hj8]; rfl) rfl ?_
        have hS : (fun w4 => Ch [hb] w w4) _ := hS
        refine TL.done ⟨hS, ?_⟩
        refine TH.take (i := 6) rfl rfl rfl rfl rfl (by kernel_rfl) (by kernel_rfl) (by kernel_rfl) hS (fun w2 hw2 => TL.add_u32 rfl rfl rfl (TL.done ⟨rfl, rfl⟩)) ?_
        refine TH.take (i := 8) rfl rfl rfl rfl rfl (by kernel_rfl) (by kernel_rfl) (by kernel_rfl) hS (fun w2 hw2 => TL.indexArr (j) ar82 rfl rfl (by first | rfl | omega) (by omega) rfl (TL.done ⟨rfl, rfl⟩)) ?_
        refine TH.one (i := 9) (by kernel_rfl) rfl rfl ?_
        refine TL.store sz80 rfl rfl rfl hMd (by have := Sha.addL_len h V; simp; omega) (by simp [Value.cells, Value.oneCell']) (.inl rfl) (fun ws5 hbs5 hcs5 hzs5 => ?_)
        replace hbs5 := hbs5.setOne rfl (by have := Sha.addL_len h V; simp; omega)
        have hS : (fun w4 => Ch [hb] w w4) _ := hS.trans hcs5 (fun _ h _ => h) (fun _ h _ => h)
        refine TL.done ⟨hS, ?_⟩
        refine TH.done (by kernel_rfl) ?_
        refine Blk.go ?_
        refine Thn.go ?_
        refine TC.region ?_
        refine TL.add_i64 rfl rfl (by omega) (by omega) rfl ?_
        refine TL.move rfl rfl ?_
        refine TL.done ?_
        refine Lp.go (j + 1) (by repeat (first | exact trivial | refine ⟨rfl, ?_⟩)) ?_ (by first | omega | (dsimp only; omega))
        refine ⟨by omega, ?_, hS⟩
        rw [← Sha.upd hh (Sha.addL_len h V) hj8, List.map_set, Sha.addL_get hj8]
        rw [Nat.zero_add, Nat.mul_one, List.setIfInBounds_toArray] at hbs5
        exact hbs5
      ·
        have hj8 : j = 8 := by omega
        subst hj8
        rw [List.take_of_length_le (by rw [Sha.addL_len]; omega), List.drop_eq_nil_of_le (by omega), List.append_nil, ← hVe] at hM
        refine TC.exit ?_
        refine Thn.exit ?_
        refine Lp.exit ?_
        refine Blk.hit ?_
        refine Ends.normal [] rfl rfl ?_
        exact ⟨hM, hcm⟩

