/-
  Walks through the given program: each theorem fnN says what the call of function N of the translation hands back, for all arguments that its premises describe, and that nothing that was there has turned.
-/
import Derived.Test.YtcoaophfojkldaaS2
namespace Go.Proofs.Ytcoaophfojkldaa
open Go.Lane
theorem can67 : Callable Try.prog 67 := ⟨Try.f67, Try.func67, by kernel_rfl, rfl⟩

theorem fn59 (h : List UInt32) (hh : h.length = 8) (a : Value) (l : List UInt8) (hl : 64 ≤ l.length) (w : World) (ha : Rd w a 1 l.length (l.map u8)) : Rets Try.prog 59 #[.agg (h.map u32).toArray, a, .agg (Sha.ks.map u32).toArray] w (fun v w' => v = .agg ((Sha.mix h l).map u32).toArray ∧ Ch [] w w') := by
  obtain ⟨ad, c, rfl, _⟩ := ha.shape
  have hmx := ha.nlt
  refine Rets.of (n := 187) (vs := [_, _, _]) Try.func59 rfl rfl rfl ?_
  refine TC.seq ?_
  refine TC.region ?_
  refine TL.box rfl rfl (fun w3 hb3 hc3 hz3 => ?_)
  refine TL.box rfl rfl (fun w5 hb5 hc5 hz5 => ?_)
  refine TL.alloc ze81 rfl (fun w6 hb6 hc6 hz6 => ?_)
  refine TL.done ?_
  refine Thn.go ?_
  refine TC.seq ?_
  refine TC.region ?_
  refine TL.alloc ze84 rfl (fun w7 hb7 hc7 hz7 => ?_)
  have hx3 : Has w7 w.heap.size (h.map u32).toArray 81 (0, 0) := ((Has.ch0 hb3 hc5).ch0 hc6).ch0 hc7
  have hx5 : Has w7 w3.heap.size (Sha.ks.map u32).toArray 84 (0, 0) := (Has.ch0 hb5 hc6).ch0 hc7
  have hx6 := hb6.ch0 hc7
  have q7 : Ch [] w w7 := ((hc3.trans0 hc5).trans0 hc6).trans0 hc7
  refine TL.done ?_
  refine Thn.go ?_
  refine TC.seq ?_
  refine TC.seq ?_
  refine TC.region ?_
  refine TL.assign rfl rfl ?_
  refine TL.done ?_
  refine Thn.go ?_
  refine TC.block ?_
  refine TC.loop1 (fun (k : Nat) => [(1, .slice ad l.length c), (3, .pointer (some ⟨w.heap.size, 0, none⟩)), (5, .pointer (some ⟨w3.heap.size, 0, none⟩)), (6, .pointer (some ⟨w5.heap.size, 0, none⟩)), (7, .pointer (some ⟨w6.heap.size, 0, none⟩)), (8, .int .i64 (k : Int))]) (fun k w' => k ≤ 16 ∧ ArrL u32 w' w6.heap.size 84 64 (Sha.ws l k) ∧ Ch [w6.heap.size] w7 w') (fun k => 16 - k) 0 (by repeat (first | exact trivial | refine ⟨rfl, ?_⟩)) (⟨by omega, ArrL.nil hb7 (by simp [Value.cells]), Ch.refl _ _⟩) (fun k w' hH => ?_)
  obtain ⟨hk, hA, hch⟩ := hH
  have hwl := Sha.ws_len l k
  have qw : Ch [] w w' := q7.thenS hch (by intro x hx; simp at hx; omega)
  refine TC.seq ?_
  refine TC.seq ?_
  refine TC.region ?_
  refine TL.move rfl rfl ?_
  refine TL.lss rfl rfl rfl ?_
  refine TL.done ?_
  refine Thn.go ?_
  refine TC.condP rfl (fun h1 => ?_) (fun h1 => ?_)
  ·
    refine TC.skip ?_
    refine Thn.go ?_
    refine TC.seq ?_
    refine TC.block ?_
    refine TC.region ?_
    refine TL.move rfl rfl ?_
    refine TL.move rfl rfl ?_
    refine TL.move rfl rfl ?_
    refine TL.mul_i64 rfl rfl (by omega) (by omega) rfl ?_
    refine TL.top (v' := .int .i64 ((4 * k : Nat) : Int)) (by congr 1) ?_
    refine TL.call can66 rfl rfl (fn66 _ l (4 * k) (by omega) (by omega) w' (ha.ch0 qw)) (fun v27 w27 hr27 => ?_)
    obtain ⟨rfl, hc27⟩ := hr27
    refine TL.indexArr (k) ar84 rfl rfl (by first | rfl | omega) (by omega) rfl ?_
    obtain ⟨cur, hcs, hcur, hget⟩ := hA.ch0 hc27
    refine TL.store sz80 rfl rfl rfl (hcur) (by first | omega | simp [Value.cells]) (by simp [Value.cells, Value.oneCell']) (.inl rfl) (fun ws1 hbs1 hcs1 hzs1 => ?_)
    replace hbs1 := hbs1.setOne rfl (by omega)
    refine TL.done ?_
    refine Blk.go ?_
    refine Thn.go ?_
    refine TC.region ?_
    refine TL.move rfl rfl ?_
    refine TL.add_i64 rfl rfl (by omega) (by omega) rfl ?_
    refine TL.assign rfl rfl ?_
    refine TL.done ?_
    refine Lp.go (k + 1) (by repeat (first | exact trivial | refine ⟨rfl, ?_⟩)) ?_ (by first | omega | (dsimp only; omega))
    refine ⟨by omega, ⟨_, by simpa using hcs, hbs1, ?_⟩, (hch.trans hc27 (fun _ h _ => h) (by simp)).trans hcs1 (fun _ h _ => h) (fun _ h _ => h)⟩
    have e : Sha.next l (Sha.ws l k) = Sha.word l (4 * k) := by rw [Sha.next, hwl, if_pos (by omega)]
    have := arr_push hget (by omega) (Sha.word l (4 * k))
    rw [Sha.ws, e, Nat.zero_add, Nat.mul_one]
    rw [hwl] at this
    exact this
  ·
    have hk16 : k = 16 := by omega
    subst hk16
    refine TC.exit ?_
    refine Thn.exit ?_
    refine Lp.exit ?_
    refine Blk.hit ?_
    refine Thn.go ?_
    refine TC.seq ?_
    refine TC.seq ?_
    refine TC.region ?_
    refine TL.assign rfl rfl ?_
    refine TL.done ?_
    refine Thn.go ?_
    refine TC.block ?_
    refine TC.loop1 (fun (k : Nat) => [(3, .pointer (some ⟨w.heap.size, 0, none⟩)), (5, .pointer (some ⟨w3.heap.size, 0, none⟩)), (6, .pointer (some ⟨w5.heap.size, 0, none⟩)), (7, .pointer (some ⟨w6.heap.size, 0, none⟩)), (9, .int .i64 (k : Int))]) (fun k w' => 16 ≤ k ∧ k ≤ 64 ∧ ArrL u32 w' w6.heap.size 84 64 (Sha.ws l k) ∧ Ch [w6.heap.size] w7 w') (fun k => 64 - k) 16 (by repeat (first | exact trivial | refine ⟨rfl, ?_⟩)) (⟨by omega, by omega, hA, hch⟩) (fun k w' hH => ?_)
    obtain ⟨hk0, hk, hA, hch⟩ := hH
    have hwl := Sha.ws_len l k
    refine TC.seq ?_
    refine TC.seq ?_
    refine TC.region ?_
    refine TL.move rfl rfl ?_
    refine TL.lss rfl rfl rfl ?_
    refine TL.done ?_
    refine Thn.go ?_
    refine TC.condP rfl (fun h2 => ?_) (fun h2 => ?_)
    ·
      refine TC.skip ?_
      refine Thn.go ?_
      refine TC.seq ?_
      refine TC.block ?_
      refine TC.seq ?_
      refine TC.regionQ (fun w2 => Ch [] w' w2) mixed0 (by kernel_rfl) (Ch.drew [] w') ?_
      refine TQ.via rfl rfl rfl rfl (fun w2 hw2 => TL.move rfl rfl (TL.done ⟨rfl, rfl⟩)) ?_
      refine TQ.via rfl rfl rfl rfl (fun w2 hw2 => TL.sub_i64 rfl rfl (by omega) (by omega) rfl (TL.done ⟨rfl, rfl⟩)) ?_
      refine TQ.via rfl rfl rfl rfl (fun w2 hw2 => TL.indexArr (k - 15) ar84 rfl rfl (by first | rfl | omega) (by omega) rfl (TL.done ⟨rfl, rfl⟩)) ?_
      refine TQ.via rfl rfl rfl rfl (fun w2 hw2 => TL.load pl80 rfl ((hA.ch0 hw2).get (map_getD _ _ 0 (by omega))) rfl (TL.done ⟨rfl, rfl⟩)) ?_
      refine TQ.call (u32 (Sha.rot ((Sha.ws l k).getD (k - 15) 0) 7)) can67 rfl rfl (fun w2 hw2 => (fn67 _ 7 (by decide) w2).mono (fun _ _ ⟨q1, q2⟩ => ⟨q1, by rw [q2]; exact hw2⟩)) ?_
      refine TQ.via rfl rfl rfl rfl (fun w2 hw2 => TL.move rfl rfl (TL.done ⟨rfl, rfl⟩)) ?_
      refine TQ.via rfl rfl rfl rfl (fun w2 hw2 => TL.sub_i64 rfl rfl (by omega) (by omega) rfl (TL.done ⟨rfl, rfl⟩)) ?_
      refine TQ.via rfl rfl rfl rfl (fun w2 hw2 => TL.indexArr (k - 15) ar84 rfl rfl (by first | rfl | omega) (by omega) rfl (TL.done ⟨rfl, rfl⟩)) ?_
      refine TQ.via rfl rfl rfl rfl (fun w2 hw2 => TL.load pl80 rfl ((hA.ch0 hw2).get (map_getD _ _ 0 (by omega))) rfl (TL.done ⟨rfl, rfl⟩)) ?_
      refine TQ.call (u32 (Sha.rot ((Sha.ws l k).getD (k - 15) 0) 18)) can67 rfl rfl (fun w2 hw2 => (fn67 _ 18 (by decide) w2).mono (fun _ _ ⟨q1, q2⟩ => ⟨q1, by rw [q2]; exact hw2⟩)) ?_
      refine TQ.via rfl rfl rfl rfl (fun w2 hw2 => TL.xor_u32 rfl rfl rfl (TL.done ⟨rfl, rfl⟩)) ?_
      refine TQ.via rfl rfl rfl rfl (fun w2 hw2 => TL.move rfl rfl (TL.done ⟨rfl, rfl⟩)) ?_
      refine TQ.via rfl rfl rfl rfl (fun w2 hw2 => TL.sub_i64 rfl rfl (by omega) (by omega) rfl (TL.done ⟨rfl, rfl⟩)) ?_
      refine TQ.via rfl rfl rfl rfl (fun w2 hw2 => TL.indexArr (k - 15) ar84 rfl rfl (by first | rfl | omega) (by omega) rfl (TL.done ⟨rfl, rfl⟩)) ?_
      refine TQ.via rfl rfl rfl rfl (fun w2 hw2 => TL.load pl80 rfl ((hA.ch0 hw2).get (map_getD _ _ 0 (by omega))) rfl (TL.done ⟨rfl, rfl⟩)) ?_
      refine TQ.via rfl rfl rfl rfl (fun w2 hw2 => TL.shr_u32 rfl rfl (by decide) rfl (TL.done ⟨rfl, rfl⟩)) ?_
      refine TQ.via rfl rfl rfl rfl (fun w2 hw2 => TL.xor_u32 rfl rfl rfl (TL.done ⟨rfl, rfl⟩)) ?_
      refine TQ.via rfl rfl rfl rfl (fun w2 hw2 => TL.assign rfl rfl (TL.done ⟨rfl, rfl⟩)) ?_
      refine TQ.done (fun w2 hw2 => ?_)
      have hA1 := hA.ch0 hw2
      have hq1 : Ch [w6.heap.size] w7 w2 := hch.trans hw2 (fun _ h _ => h) (by simp)
      refine Thn.go ?_
      refine TC.seq ?_
      refine TC.regionQ (fun w4 => Ch [] w2 w4) mixed0 (by kernel_rfl) (Ch.drew [] w2) ?_
      refine TQ.via rfl rfl rfl rfl (fun w2 hw2 => TL.move rfl rfl (TL.done ⟨rfl, rfl⟩)) ?_
      refine TQ.via rfl rfl rfl rfl (fun w2 hw2 => TL.sub_i64 rfl rfl (by omega) (by omega) rfl (TL.done ⟨rfl, rfl⟩)) ?_
      refine TQ.via rfl rfl rfl rfl (fun w2 hw2 => TL.indexArr (k - 2) ar84 rfl rfl (by first | rfl | omega) (by omega) rfl (TL.done ⟨rfl, rfl⟩)) ?_
      refine TQ.via rfl rfl rfl rfl (fun w2 hw2 => TL.load pl80 rfl ((hA1.ch0 hw2).get (map_getD _ _ 0 (by omega))) rfl (TL.done ⟨rfl, rfl⟩)) ?_
      refine TQ.call (u32 (Sha.rot ((Sha.ws l k).getD (k - 2) 0) 17)) can67 rfl rfl (fun w2 hw2 => (fn67 _ 17 (by decide) w2).mono (fun _ _ ⟨q1, q2⟩ => ⟨q1, by rw [q2]; exact hw2⟩)) ?_
      refine TQ.via rfl rfl rfl rfl (fun w2 hw2 => TL.move rfl rfl (TL.done ⟨rfl, rfl⟩)) ?_
      refine TQ.via rfl rfl rfl rfl (fun w2 hw2 => TL.sub_i64 rfl rfl (by omega) (by omega) rfl (TL.done ⟨rfl, rfl⟩)) ?_
      refine TQ.via rfl rfl rfl rfl (fun w2 hw2 => TL.indexArr (k - 2) ar84 rfl rfl (by first | rfl | omega) (by omega) rfl (TL.done ⟨rfl, rfl⟩)) ?_
      refine TQ.via rfl rfl rfl rfl (fun w2 hw2 => TL.load pl80 rfl ((hA1.ch0 hw2).get (map_getD _ _ 0 (by omega))) rfl (TL.done ⟨rfl, rfl⟩)) ?_
      refine TQ.call (u32 (Sha.rot ((Sha.ws l k).getD (k - 2) 0) 19)) can67 rfl rfl (fun w2 hw2 => (fn67 _ 19 (by decide) w2).mono (fun _ _ ⟨q1, q2⟩ => ⟨q1, by rw [q2]; exact hw2⟩)) ?_
      refine TQ.via rfl rfl rfl rfl (fun w2 hw2 => TL.xor_u32 rfl rfl rfl (TL.done ⟨rfl, rfl⟩)) ?_
      refine TQ.via rfl rfl rfl rfl (fun w2 hw2 => TL.move rfl rfl (TL.done ⟨rfl, rfl⟩)) ?_
      refine TQ.via rfl rfl rfl rfl (fun w2 hw2 => TL.sub_i64 rfl rfl (by omega) (by omega) rfl (TL.done ⟨rfl, rfl⟩)) ?_
      refine TQ.via rfl rfl rfl rfl (fun w2 hw2 => TL.indexArr (k - 2) ar84 rfl rfl (by first | rfl | omega) (by omega) rfl (TL.done ⟨rfl, rfl⟩)) ?_
      refine TQ.via rfl rfl rfl rfl (fun w2 hw2 => TL.load pl80 rfl ((hA1.ch0 hw2).get (map_getD _ _ 0 (by omega))) rfl (TL.done ⟨rfl, rfl⟩)) ?_
      refine TQ.via rfl rfl rfl rfl (fun w2 hw2 => TL.shr_u32 rfl rfl (by decide) rfl (TL.done ⟨rfl, rfl⟩)) ?_
      refine TQ.via rfl rfl rfl rfl (fun w2 hw2 => TL.xor_u32 rfl rfl rfl (TL.done ⟨rfl, rfl⟩)) ?_
      refine TQ.via rfl rfl rfl rfl (fun w2 hw2 => TL.assign rfl rfl (TL.done ⟨rfl, rfl⟩)) ?_
      refine TQ.done (fun w2 hw2 => ?_)
      have hA2 := (hA1.ch0 hw2).ch0 (Ch.drew [] w2)
      have hq2 : Ch [w6.heap.size] w7 w2.drew := (hq1.trans hw2 (fun _ h _ => h) (by simp)).trans (Ch.drew [] w2) (fun _ h _ => h) (by simp)
      refine Thn.go ?_
      refine TC.regionTail 15 mixed0 (by kernel_rfl) ?_
      refine TS.via rfl rfl rfl rfl (TL.move rfl rfl (TL.done ⟨rfl, rfl⟩)) ?_
      refine TS.via rfl rfl rfl rfl (TL.move rfl rfl (TL.done ⟨rfl, rfl⟩)) ?_
      refine TS.via rfl rfl rfl rfl (TL.sub_i64 rfl rfl (by omega) (by omega) rfl (TL.done ⟨rfl, rfl⟩)) ?_
      refine TS.via rfl rfl rfl rfl (TL.indexArr (k - 16) ar84 rfl rfl (by first | rfl | omega) (by omega) rfl (TL.done ⟨rfl, rfl⟩)) ?_
      refine TS.via rfl rfl rfl rfl (TL.load pl80 rfl (hA2.get (map_getD _ _ 0 (by omega))) rfl (TL.done ⟨rfl, rfl⟩)) ?_
      refine TS.via rfl rfl rfl rfl (TL.move rfl rfl (TL.done ⟨rfl, rfl⟩)) ?_
      refine TS.via rfl rfl rfl rfl (TL.add_u32 rfl rfl rfl (TL.done ⟨rfl, rfl⟩)) ?_
      refine TS.via rfl rfl rfl rfl (TL.move rfl rfl (TL.done ⟨rfl, rfl⟩)) ?_
      refine TS.via rfl rfl rfl rfl (TL.sub_i64 rfl rfl (by omega) (by omega) rfl (TL.done ⟨rfl, rfl⟩)) ?_
      refine TS.via rfl rfl rfl rfl (TL.indexArr (k - 7) ar84 rfl rfl (by first | rfl | omega) (by omega) rfl (TL.done ⟨rfl, rfl⟩)) ?_
      refine TS.via rfl rfl rfl rfl (TL.load pl80 rfl (hA2.get (map_getD _ _ 0 (by omega))) rfl (TL.done ⟨rfl, rfl⟩)) ?_
      refine TS.via rfl rfl rfl rfl (TL.add_u32 rfl rfl rfl (TL.done ⟨rfl, rfl⟩)) ?_
      refine TS.via rfl rfl rfl rfl (TL.move rfl rfl (TL.done ⟨rfl, rfl⟩)) ?_
      refine TS.via rfl rfl rfl rfl (TL.add_u32 rfl rfl rfl (TL.done ⟨rfl, rfl⟩)) ?_
      refine TS.via rfl rfl rfl rfl (TL.indexArr (k) ar84 rfl rfl (by first | rfl | omega) (by omega) rfl (TL.done ⟨rfl, rfl⟩)) ?_
      refine TS.done ?_
      obtain ⟨cur, hcs, hcur, hget⟩ := hA2
      refine TL.store sz80 rfl rfl rfl (hcur) (by first | omega | simp [Value.cells]) (by simp [Value.cells, Value.oneCell']) (.inl rfl) (fun ws2 hbs2 hcs2 hzs2 => ?_)
      replace hbs2 := hbs2.setOne rfl (by omega)
      refine TL.done ?_
      refine Blk.go ?_
      refine Thn.go ?_
      refine TC.region ?_
      refine TL.move rfl rfl ?_
      refine TL.add_i64 rfl rfl (by omega) (by omega) rfl ?_
      refine TL.assign rfl rfl ?_
      refine TL.done ?_
      refine Lp.go (k + 1) (by repeat (first | exact trivial | refine ⟨rfl, ?_⟩)) ?_ (by first | omega | (dsimp only; omega))
      refine ⟨by omega, by omega, ⟨_, by simpa using hcs, hbs2, ?_⟩, hq2.trans hcs2 (fun _ h _ => h) (fun _ h _ => h)⟩
      have e : Sha.next l (Sha.ws l k) = (Sha.ws l k).getD (k - 16) 0 + Sha.sig0 ((Sha.ws l k).getD (k - 15) 0) + (Sha.ws l k).getD (k - 7) 0 + Sha.sig1 ((Sha.ws l k).getD (k - 2) 0) := by rw [Sha.next, hwl, if_neg (by omega)]
      have := arr_push hget (by omega) ((Sha.ws l k).getD (k - 16) 0 + Sha.sig0 ((Sha.ws l k).getD (k - 15) 0) + (Sha.ws l k).getD (k - 7) 0 + Sha.sig1 ((Sha.ws l k).getD (k - 2) 0))
      rw [Sha.ws, e, Nat.zero_add, Nat.mul_one]
      rw [hwl] at this
      exact this
    ·
      have hk64 : k = 64 := by omega
      subst hk64
      have hh1 : Has w' w.heap.size (h.map u32).toArray 81 (0, 0) := hx3.ch hch (by simp; omega)
      have hk1 : ArrL u32 w' w3.heap.size 84 64 Sha.ks := (ArrL.ofFull hx5 rfl).ch hch (by simp; omega)
      have hr1 := hx6.ch hch (by simp; omega)
      have qw : Ch [] w w' := q7.thenS hch (by intro x hx; simp at hx; omega)
      have hsz := hch.size
      refine TC.exit ?_
      refine Thn.exit ?_
      refine Lp.exit ?_
      refine Blk.hit ?_
      refine Thn.go ?_
      refine TC.seq ?_
      refine TC.region ?_
      refine TL.loadAgg (h.map u32) ag81 rfl (by simpa using hh) (fun j _ => by rw [hh1.cell, Nat.zero_add, List.getElem?_toArray]) rfl ?_
      refine TL.alloc ze81 rfl (fun w12 hb12 hc12 hz12 => ?_)
      refine TL.store sz81 rfl rfl (by simpa [Value.cells] using hh) hb12 (by simp [Value.cells]) (by simpa [Value.cells] using one_u32 h) (.inl rfl) (fun ws3 hbs3 hcs3 hzs3 => ?_)
      replace hbs3 : Has ws3 w'.heap.size (h.map u32).toArray 81 (0, 0) := hbs3.setAll (by simp [Value.cells, hh])
      have hch3 : Ch [] w' ws3 := hc12.then1 hcs3 (Nat.le_refl _)
      refine TL.done ?_
      refine Thn.go ?_
      refine TC.seq ?_
      refine TC.seq ?_
      refine TC.region ?_
      refine TL.assign rfl rfl ?_
      refine TL.done ?_
      refine Thn.go ?_
      refine TC.block ?_
      refine TC.loop1 (fun (i : Nat) => [(3, .pointer (some ⟨w.heap.size, 0, none⟩)), (5, .pointer (some ⟨w3.heap.size, 0, none⟩)), (6, .pointer (some ⟨w5.heap.size, 0, none⟩)), (7, .pointer (some ⟨w6.heap.size, 0, none⟩)), (12, .pointer (some ⟨w'.heap.size, 0, none⟩)), (13, .int .i64 (i : Int))]) (fun i w2 => i ≤ 64 ∧ Has w2 w'.heap.size ((Sha.steps l h i).map u32).toArray 81 (0, 0) ∧ Ch [] w' w2) (fun i => 64 - i) 0 (by repeat (first | exact trivial | refine ⟨rfl, ?_⟩)) (⟨by omega, hbs3, hch3⟩) (fun i w2 hH => ?_)
      obtain ⟨hi, hV, hch2⟩ := hH
      have hvl := Sha.steps_len l hh i
      obtain ⟨V, hVe⟩ : ∃ V, Sha.steps l h i = V := ⟨_, rfl⟩
      rw [hVe] at hV hvl
      have hAV : ArrL u32 w2 w'.heap.size 81 8 V := ArrL.ofFull hV hvl
      have hkk := hk1.ch0 hch2
      have hWW := hA.ch0 hch2
      refine TC.seq ?_
      refine TC.seq ?_
      refine TC.region ?_
      refine TL.move rfl rfl ?_
      refine TL.lss rfl rfl rfl ?_
      refine TL.done ?_
      refine Thn.go ?_
      refine TC.condP rfl (fun h3 => ?_) (fun h3 => ?_)
      ·
        refine TC.skip ?_
        refine Thn.go ?_
        refine TC.seq ?_
        refine TC.block ?_
        refine TC.seq ?_
        refine TC.regionQ (fun w3 => Ch [] w2 w3) mixed0 (by kernel_rfl) (Ch.drew [] w2) ?_
        refine TQ.via rfl rfl rfl rfl (fun w2 hw2 => TL.indexArr (4) ar81 rfl rfl (by first | rfl | omega) (by omega) rfl (TL.done ⟨rfl, rfl⟩)) ?_
        refine TQ.via rfl rfl rfl rfl (fun w2 hw2 => TL.load pl80 rfl ((hAV.ch0 hw2).get (map_getD _ 4 0 (by omega))) rfl (TL.done ⟨rfl, rfl⟩)) ?_
        refine TQ.call (u32 (Sha.rot (V.getD 4 0) 6)) can67 rfl rfl (fun w2 hw2 => (fn67 _ 6 (by decide) w2).mono (fun _ _ ⟨q1, q2⟩ => ⟨q1, by rw [q2]; exact hw2⟩)) ?_
        refine TQ.via rfl rfl rfl rfl (fun w2 hw2 => TL.indexArr (4) ar81 rfl rfl (by first | rfl | omega) (by omega) rfl (TL.done ⟨rfl, rfl⟩)) ?_
        refine TQ.via rfl rfl rfl rfl (fun w2 hw2 => TL.load pl80 rfl ((hAV.ch0 hw2).get (map_getD _ 4 0 (by omega))) rfl (TL.done ⟨rfl, rfl⟩)) ?_
        refine TQ.call (u32 (Sha.rot (V.getD 4 0) 11)) can67 rfl rfl (fun w2 hw2 => (fn67 _ 11 (by decide) w2).mono (fun _ _ ⟨q1, q2⟩ => ⟨q1, by rw [q2]; exact hw2⟩)) ?_
        refine TQ.via rfl rfl rfl rfl (fun w2 hw2 => TL.xor_u32 rfl rfl rfl (TL.done ⟨rfl, rfl⟩)) ?_
        refine TQ.via rfl rfl rfl rfl (fun w2 hw2 => TL.indexArr (4) ar81 rfl rfl (by first | rfl | omega) (by omega) rfl (TL.done ⟨rfl, rfl⟩)) ?_
        refine TQ.via rfl rfl rfl rfl (fun w2 hw2 => TL.load pl80 rfl ((hAV.ch0 hw2).get (map_getD _ 4 0 (by omega))) rfl (TL.done ⟨rfl, rfl⟩)) ?_
        refine TQ.call (u32 (Sha.rot (V.getD 4 0) 25)) can67 rfl rfl (fun w2 hw2 => (fn67 _ 25 (by decide) w2).mono (fun _ _ ⟨q1, q2⟩ => ⟨q1, by rw [q2]; exact hw2⟩)) ?_
        refine TQ.via rfl rfl rfl rfl (fun w2 hw2 => TL.xor_u32 rfl rfl rfl (TL.done ⟨rfl, rfl⟩)) ?_
        refine TQ.via rfl rfl rfl rfl (fun w2 hw2 => TL.assign rfl rfl (TL.done ⟨rfl, rfl⟩)) ?_
        refine TQ.done (fun w2 hw2 => ?_)
        have hAV1 := hAV.ch0 hw2
        have hkk1 := hkk.ch0 hw2
        have hWW1 := hWW.ch0 hw2
        have hq1 := hch2.trans0 hw2
        refine Thn.go ?_
        refine TC.seq ?_
        refine TC.regionQ (fun w3 => Ch [] w2 w3) mixed0 (by kernel_rfl) (Ch.drew [] w2) ?_
        refine TQ.via rfl rfl rfl rfl (fun w2 hw2 => TL.indexArr (7) ar81 rfl rfl (by first | rfl | omega) (by omega) rfl (TL.done ⟨rfl, rfl⟩)) ?_
        refine TQ.via rfl rfl rfl rfl (fun w2 hw2 => TL.load pl80 rfl ((hAV1.ch0 hw2).get (map_getD _ 7 0 (by omega))) rfl (TL.done ⟨rfl, rfl⟩)) ?_
        refine TQ.via rfl rfl rfl rfl (fun w2 hw2 => TL.move rfl rfl (TL.done ⟨rfl, rfl⟩)) ?_
        refine TQ.via rfl rfl rfl rfl (fun w2 hw2 => TL.add_u32 rfl rfl rfl (TL.done ⟨rfl, rfl⟩)) ?_
        refine TQ.via rfl rfl rfl rfl (fun w2 hw2 => TL.indexArr (4) ar81 rfl rfl (by first | rfl | omega) (by omega) rfl (TL.done ⟨rfl, rfl⟩)) ?_
        refine TQ.via rfl rfl rfl rfl (fun w2 hw2 => TL.load pl80 rfl ((hAV1.ch0 hw2).get (map_getD _ 4 0 (by omega))) rfl (TL.done ⟨rfl, rfl⟩)) ?_
        refine TQ.via rfl rfl rfl rfl (fun w2 hw2 => TL.indexArr (5) ar81 rfl rfl (by first | rfl | omega) (by omega) rfl (TL.done ⟨rfl, rfl⟩)) ?_
        refine TQ.via rfl rfl rfl rfl (fun w2 hw2 => TL.load pl80 rfl ((hAV1.ch0 hw2).get (map_getD _ 5 0 (by omega))) rfl (TL.done ⟨rfl, rfl⟩)) ?_
        refine TQ.via rfl rfl rfl rfl (fun w2 hw2 => TL.and_u32 rfl rfl rfl (TL.done ⟨rfl, rfl⟩)) ?_
        refine TQ.via rfl rfl rfl rfl (fun w2 hw2 => TL.indexArr (4) ar81 rfl rfl (by first | rfl | omega) (by omega) rfl (TL.done ⟨rfl, rfl⟩)) ?_
        refine TQ.via rfl rfl rfl rfl (fun w2 hw2 => TL.load pl80 rfl ((hAV1.ch0 hw2).get (map_getD _ 4 0 (by omega))) rfl (TL.done ⟨rfl, rfl⟩)) ?_
        refine TQ.via rfl rfl rfl rfl (fun w2 hw2 => TL.compl_u32 rfl rfl (TL.done ⟨rfl, rfl⟩)) ?_
        refine TQ.via rfl rfl rfl rfl (fun w2 hw2 => TL.indexArr (6) ar81 rfl rfl (by first | rfl | omega) (by omega) rfl (TL.done ⟨rfl, rfl⟩)) ?_
        refine TQ.via rfl rfl rfl rfl (fun w2 hw2 => TL.load pl80 rfl ((hAV1.ch0 hw2).get (map_getD _ 6 0 (by omega))) rfl (TL.done ⟨rfl, rfl⟩)) ?_
        refine TQ.via rfl rfl rfl rfl (fun w2 hw2 => TL.and_u32 rfl rfl rfl (TL.done ⟨rfl, rfl⟩)) ?_
        refine TQ.via rfl rfl rfl rfl (fun w2 hw2 => TL.xor_u32 rfl rfl rfl (TL.done ⟨rfl, rfl⟩)) ?_
        refine TQ.via rfl rfl rfl rfl (fun w2 hw2 => TL.add_u32 rfl rfl rfl (TL.done ⟨rfl, rfl⟩)) ?_
        refine TQ.via rfl rfl rfl rfl (fun w2 hw2 => TL.move rfl rfl (TL.done ⟨rfl, rfl⟩)) ?_
        refine TQ.via rfl rfl rfl rfl (fun w2 hw2 => TL.indexArr (i) ar84 rfl rfl (by first | rfl | omega) (by omega) rfl (TL.done ⟨rfl, rfl⟩)) ?_
        refine TQ.via rfl rfl rfl rfl (fun w2 hw2 => TL.load pl80 rfl ((hkk1.ch0 hw2).get (map_getD _ i 0 (by show i < 64; omega))) rfl (TL.done ⟨rfl, rfl⟩)) ?_
        refine TQ.via rfl rfl rfl rfl (fun w2 hw2 => TL.add_u32 rfl rfl rfl (TL.done ⟨rfl, rfl⟩)) ?_
        refine TQ.via rfl rfl rfl rfl (fun w2 hw2 => TL.move rfl rfl (TL.done ⟨rfl, rfl⟩)) ?_
        refine TQ.via rfl rfl rfl rfl (fun w2 hw2 => TL.indexArr (i) ar84 rfl rfl (by first | rfl | omega) (by omega) rfl (TL.done ⟨rfl, rfl⟩)) ?_
        refine TQ.via rfl rfl rfl rfl (fun w2 hw2 => TL.load pl80 rfl ((hWW1.ch0 hw2).get (map_getD _ i 0 (by rw [Sha.ws_len]; omega))) rfl (TL.done ⟨rfl, rfl⟩)) ?_
        refine TQ.via rfl rfl rfl rfl (fun w2 hw2 => TL.add_u32 rfl rfl rfl (TL.done ⟨rfl, rfl⟩)) ?_
        refine TQ.via rfl rfl rfl rfl (fun w2 hw2 => TL.assign rfl rfl (TL.done ⟨rfl, rfl⟩)) ?_
        refine TQ.done (fun w2 hw2 => ?_)
        have hAV2 := hAV1.ch0 hw2
        have hq2 := hq1.trans0 hw2
        refine Thn.go ?_
        refine TC.seq ?_
        refine TC.regionQ (fun w3 => Ch [] w2 w3) mixed0 (by kernel_rfl) (Ch.drew [] w2) ?_
        refine TQ.via rfl rfl rfl rfl (fun w2 hw2 => TL.indexArr (0) ar81 rfl rfl (by first | rfl | omega) (by omega) rfl (TL.done ⟨rfl, rfl⟩)) ?_
        refine TQ.via rfl rfl rfl rfl (fun w2 hw2 => TL.load pl80 rfl ((hAV2.ch0 hw2).get (map_getD _ 0 0 (by omega))) rfl (TL.done ⟨rfl, rfl⟩)) ?_
        refine TQ.call (u32 (Sha.rot (V.getD 0 0) 2)) can67 rfl rfl (fun w2 hw2 => (fn67 _ 2 (by decide) w2).mono (fun _ _ ⟨q1, q2⟩ => ⟨q1, by rw [q2]; exact hw2⟩)) ?_
        refine TQ.via rfl rfl rfl rfl (fun w2 hw2 => TL.indexArr (0) ar81 rfl rfl (by first | rfl | omega) (by omega) rfl (TL.done ⟨rfl, rfl⟩)) ?_
        refine TQ.via rfl rfl rfl rfl (fun w2 hw2 => TL.load pl80 rfl ((hAV2.ch0 hw2).get (map_getD _ 0 0 (by omega))) rfl (TL.done ⟨rfl, rfl⟩)) ?_
        refine TQ.call (u32 (Sha.rot (V.getD 0 0) 13)) can67 rfl rfl (fun w2 hw2 => (fn67 _ 13 (by decide) w2).mono (fun _ _ ⟨q1, q2⟩ => ⟨q1, by rw [q2]; exact hw2⟩)) ?_
        refine TQ.via rfl rfl rfl rfl (fun w2 hw2 => TL.xor_u32 rfl rfl rfl (TL.done ⟨rfl, rfl⟩)) ?_
        refine TQ.via rfl rfl rfl rfl (fun w2 hw2 => TL.indexArr (0) ar81 rfl rfl (by first | rfl | omega) (by omega) rfl (TL.done ⟨rfl, rfl⟩)) ?_
        refine TQ.via rfl rfl rfl rfl (fun w2 hw2 => TL.load pl80 rfl ((hAV2.ch0 hw2).get (map_getD _ 0 0 (by omega))) rfl (TL.done ⟨rfl, rfl⟩)) ?_
        refine TQ.call (u32 (Sha.rot (V.getD 0 0) 22)) can67 rfl rfl (fun w2 hw2 => (fn67 _ 22 (by decide) w2).mono (fun _ _ ⟨q1, q2⟩ => ⟨q1, by rw [q2]; exact hw2⟩)) ?_
        refine TQ.via rfl rfl rfl rfl (fun w2 hw2 => TL.xor_u32 rfl rfl rfl (TL.done ⟨rfl, rfl⟩)) ?_
        refine TQ.via rfl rfl rfl rfl (fun w2 hw2 => TL.assign rfl rfl (TL.done ⟨rfl, rfl⟩)) ?_
        refine TQ.done (fun w2 hw2 => ?_)
        have hAV3 := hAV2.ch0 hw2
        have hq3 := hq2.trans0 hw2
        refine Thn.go ?_
        refine TC.seq ?_
        refine TC.region ?_
        refine TL.move rfl rfl ?_
        refine TL.indexArr (0) ar81 rfl rfl (by first | rfl | omega) (by omega) rfl ?_
        refine TL.load pl80 rfl (hAV3.get (map_getD _ 0 0 (by omega))) rfl ?_
        refine TL.indexArr (1) ar81 rfl rfl (by first | rfl | omega) (by omega) rfl ?_
        refine TL.load pl80 rfl (hAV3.get (map_getD _ 1 0 (by omega))) rfl ?_
        refine TL.and_u32 rfl rfl rfl ?_
        refine TL.indexArr (0) ar81 rfl rfl (by first | rfl | omega) (by omega) rfl ?_
        refine TL.load pl80 rfl (hAV3.get (map_getD _ 0 0 (by omega))) rfl ?_
        refine TL.indexArr (2) ar81 rfl rfl (by first | rfl | omega) (by omega) rfl ?_
        refine TL.load pl80 rfl (hAV3.get (map_getD _ 2 0 (by omega))) rfl ?_
        refine TL.and_u32 rfl rfl rfl ?_
        refine TL.xor_u32 rfl rfl rfl ?_
        refine TL.indexArr (1) ar81 rfl rfl (by first | rfl | omega) (by omega) rfl ?_
        refine TL.load pl80 rfl (hAV3.get (map_getD _ 1 0 (by omega))) rfl ?_
        refine TL.indexArr (2) ar81 rfl rfl (by first | rfl | omega) (by omega) rfl ?_
        refine TL.load pl80 rfl (hAV3.get (map_getD _ 2 0 (by omega))) rfl ?_
        refine TL.and_u32 rfl rfl rfl ?_
        refine TL.xor_u32 rfl rfl rfl ?_
        refine TL.add_u32 rfl rfl rfl ?_
        refine TL.assign rfl rfl ?_
        refine TL.done ?_
        refine Thn.go ?_
        refine TC.region ?_
        refine TL.move rfl rfl ?_
        refine TL.move rfl rfl ?_
        refine TL.add_u32 rfl rfl rfl ?_
        refine TL.indexArr (0) ar81 rfl rfl (by first | rfl | omega) (by omega) rfl ?_
        refine TL.load pl80 rfl (hAV3.get (map_getD _ 0 0 (by omega))) rfl ?_
        refine TL.indexArr (1) ar81 rfl rfl (by first | rfl | omega) (by omega) rfl ?_
        refine TL.load pl80 rfl (hAV3.get (map_getD _ 1 0 (by omega))) rfl ?_
        refine TL.indexArr (2) ar81 rfl rfl (by first | rfl | omega) (by omega) rfl ?_
        refine TL.load pl80 rfl (hAV3.get (map_getD _ 2 0 (by omega))) rfl ?_
        refine TL.indexArr (3) ar81 rfl rfl (by first | rfl | omega) (by omega) rfl ?_
        refine TL.load pl80 rfl (hAV3.get (map_getD _ 3 0 (by omega))) rfl ?_
        refine TL.move rfl rfl ?_
        refine TL.add_u32 rfl rfl rfl ?_
        refine TL.indexArr (4) ar81 rfl rfl (by first | rfl | omega) (by omega) rfl ?_
        refine TL.load pl80 rfl (hAV3.get (map_getD _ 4 0 (by omega))) rfl ?_
        refine TL.indexArr (5) ar81 rfl rfl (by first | rfl | omega) (by omega) rfl ?_
        refine TL.load pl80 rfl (hAV3.get (map_getD _ 5 0 (by omega))) rfl ?_
        refine TL.indexArr (6) ar81 rfl rfl (by first | rfl | omega) (by omega) rfl ?_
        refine TL.load pl80 rfl (hAV3.get (map_getD _ 6 0 (by omega))) rfl ?_
        refine TL.buildArr [.tmp 155, .tmp 157, .tmp 159, .tmp 161, .tmp 165, .tmp 167, .tmp 169, .tmp 171] Try.underlying81 sz80 ze81 rfl rfl rfl (by simp [Value.cells]) rfl ?_
        refine TL.top (v' := .agg ((Sha.step V (Sha.ks.getD i 0) ((Sha.ws l 64).getD i 0)).map u32).toArray) rfl ?_
        refine TL.store sz81 rfl rfl rfl (hAV3.full hvl) (by simp [hvl]) (by simpa [Value.cells] using one_u32 (Sha.step V (Sha.ks.getD i 0) ((Sha.ws l 64).getD i 0))) (.inl rfl) (fun ws4 hbs4 hcs4 hzs4 => ?_)
        replace hbs4 : Has ws4 w'.heap.size ((Sha.steps l h (i + 1)).map u32).toArray 81 (0, 0) := by
          rw [Sha.steps, hVe]
          exact hbs4.setAll (by simp [Value.cells, hvl, Sha.step])
        refine TL.done ?_
        refine Blk.go ?_
        refine Thn.go ?_
        refine TC.region ?_
        refine TL.move rfl rfl ?_
        refine TL.add_i64 rfl rfl (by omega) (by omega) rfl ?_
        refine TL.assign rfl rfl ?_
        refine TL.done ?_
        refine Lp.go (i + 1) (by repeat (first | exact trivial | refine ⟨rfl, ?_⟩)) ?_ (by first | omega | (dsimp only; omega))
        exact ⟨by omega, hbs4, hq3.then1 hcs4 (Nat.le_refl _)⟩
      ·
        have hi64 : i = 64 := by omega
        subst hi64
        have hh2 := hh1.ch0 hch2
        have hr2 := hr1.ch0 hch2
        refine TC.exit ?_
        refine Thn.exit ?_
        refine Lp.exit ?_
        refine Blk.hit ?_
        refine Thn.go ?_
        refine TC.seq ?_
        refine TC.seq ?_
        refine TC.region ?_
        refine TL.assign rfl rfl ?_
        refine TL.done ?_
        refine Thn.go ?_
        refine TC.block ?_
        refine TC.loop1 (fun (j : Nat) => [(3, .pointer (some ⟨w.heap.size, 0, none⟩)), (6, .pointer (some ⟨w5.heap.size, 0, none⟩)), (12, .pointer (some ⟨w'.heap.size, 0, none⟩)), (18, .int .i64 (j : Int))]) (fun j w3 => j ≤ 8 ∧ Has w3 w.heap.size (((Sha.addL h V).take j ++ h.drop j).map u32).toArray 81 (0, 0) ∧ Ch [w.heap.size] w2 w3) (fun j => 8 - j) 0 (by repeat (first | exact trivial | refine ⟨rfl, ?_⟩)) (⟨by omega, by simpa using hh2, Ch.refl _ _⟩) (fun j w4 hH => ?_)
        obtain ⟨hj, hM, hcm⟩ := hH
        refine TC.seq ?_
        refine TC.seq ?_
        refine TC.region ?_
        refine TL.move rfl rfl ?_
        refine TL.lss rfl rfl rfl ?_
        refine TL.done ?_
        refine Thn.go ?_
        refine TC.condP rfl (fun h4 => ?_) (fun h4 => ?_)
        ·
          have hj8 : j < 8 := by omega
          have hMd : Has w4.drew w.heap.size (((Sha.addL h V).take j ++ h.drop j).map u32).toArray 81 (0, 0) := hM
          have hVd : ArrL u32 w4.drew w'.heap.size 81 8 V := (hAV.ch hcm (by simp; omega)).ch0 (Ch.drew [] w4)
          refine TC.skip ?_
          refine Thn.go ?_
          refine TC.seq ?_
          refine TC.block ?_
          refine TC.regionTail 9 mixed0 (by kernel_rfl) ?_
          refine TS.via rfl rfl rfl rfl (TL.move rfl rfl (TL.done ⟨rfl, rfl⟩)) ?_
          refine TS.via rfl rfl rfl rfl (TL.move rfl rfl (TL.done ⟨rfl, rfl⟩)) ?_
          refine TS.via rfl rfl rfl rfl (TL.indexArr (j) ar81 rfl rfl (by first | rfl | omega) (by omega) rfl (TL.done ⟨rfl, rfl⟩)) ?_
          refine TS.via rfl rfl rfl rfl (TL.load pl80 rfl (by rw [hMd.cell, Nat.zero_add, Nat.mul_one, List.getElem?_toArray, List.getElem?_map, Sha.mid hh (Sha.addL_len h V) hj8]; rfl) rfl (TL.done ⟨rfl, rfl⟩)) ?_
          refine TS.via rfl rfl rfl rfl (TL.move rfl rfl (TL.done ⟨rfl, rfl⟩)) ?_
          refine TS.via rfl rfl rfl rfl (TL.indexArr (j) ar81 rfl rfl (by first | rfl | omega) (by omega) rfl (TL.done ⟨rfl, rfl⟩)) ?_
          refine TS.via rfl rfl rfl rfl (TL.load pl80 rfl (hVd.get (map_getD _ j 0 (by omega))) rfl (TL.done ⟨rfl, rfl⟩)) ?_
          refine TS.via rfl rfl rfl rfl (TL.add_u32 rfl rfl rfl (TL.done ⟨rfl, rfl⟩)) ?_
          refine TS.via rfl rfl rfl rfl (TL.indexArr (j) ar81 rfl rfl (by first | rfl | omega) (by omega) rfl (TL.done ⟨rfl, rfl⟩)) ?_
          refine TS.done ?_
          refine TL.store sz80 rfl rfl rfl hMd (by have := Sha.addL_len h V; simp; omega) (by simp [Value.cells, Value.oneCell']) (.inl rfl) (fun ws5 hbs5 hcs5 hzs5 => ?_)
          replace hbs5 := hbs5.setOne rfl (by have := Sha.addL_len h V; simp; omega)
          refine TL.done ?_
          refine Blk.go ?_
          refine Thn.go ?_
          refine TC.region ?_
          refine TL.move rfl rfl ?_
          refine TL.add_i64 rfl rfl (by omega) (by omega) rfl ?_
          refine TL.assign rfl rfl ?_
          refine TL.done ?_
          refine Lp.go (j + 1) (by repeat (first | exact trivial | refine ⟨rfl, ?_⟩)) ?_ (by first | omega | (dsimp only; omega))
          refine ⟨by omega, ?_, (hcm.trans (Ch.drew [] w4) (fun _ h _ => h) (by simp)).trans hcs5 (fun _ h _ => h) (fun _ h _ => h)⟩
          rw [← Sha.upd hh (Sha.addL_len h V) hj8, List.map_set, Sha.addL_get hj8]
          rw [Nat.zero_add, Nat.mul_one, List.setIfInBounds_toArray] at hbs5
          exact hbs5
        ·
          have hj8 : j = 8 := by omega
          subst hj8
          rw [List.take_of_length_le (by rw [Sha.addL_len]; omega), List.drop_eq_nil_of_le (by omega), List.append_nil, ← hVe] at hM
          have hml := Sha.mix_len h l
          have hr3 := hr2.ch hcm (by simp; omega)
          refine TC.exit ?_
          refine Thn.exit ?_
          refine Lp.exit ?_
          refine Blk.hit ?_
          refine Thn.go ?_
          refine TC.seq ?_
          refine TC.region ?_
          refine TL.loadAgg ((Sha.mix h l).map u32) ag81 rfl (by simpa using hml) (fun j _ => by rw [Has.cell hM, Nat.zero_add, List.getElem?_toArray]; rfl) rfl ?_
          refine TL.store sz81 rfl rfl (by simpa [Value.cells] using hml) hr3 (by simp [Value.cells]) (by simpa [Value.cells] using one_u32 (Sha.mix h l)) (.inl rfl) (fun ws6 hbs6 hcs6 hzs6 => ?_)
          replace hbs6 : Has ws6 w5.heap.size ((Sha.mix h l).map u32).toArray 81 (0, 0) := hbs6.setAll (by simp [Value.cells, hml])
          refine TL.done ?_
          refine Thn.go ?_
          refine TC.ret ?_
          refine Ends.cell ((Sha.mix h l).map u32) (.inl rfl) rfl ag81 rfl (by simpa using hml) (fun j _ => by rw [hbs6.cell, Nat.zero_add, List.getElem?_toArray]) ?_
          exact ⟨rfl, ((qw.trans0 hch2).then1 hcm (Nat.le_refl _)).then1 hcs6 (by omega)⟩

