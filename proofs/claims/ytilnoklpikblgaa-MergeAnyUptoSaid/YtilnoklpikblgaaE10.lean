/-
  Walks through the given program: each theorem fnN says what the call of function N of the translation hands back, for all arguments that its premises describe, and that nothing that was there has turned.
-/
import Derived.Test.YtilnoklpikblgaaE9
import Derived.Test.YtilnoklpikblgaaMg3
namespace Go.Proofs.Ytilnoklpikblgaa
open Go.Lane
theorem can10 : Callable Try.prog 10 := ⟨Try.f10, Try.func10, by kernel_rfl, rfl⟩
theorem can13 : Callable Try.prog 13 := ⟨Try.f13, Try.func13, by kernel_rfl, rfl⟩
theorem can17 : Callable Try.prog 17 := ⟨Try.f17, Try.func17, by kernel_rfl, rfl⟩
theorem can21 : Callable Try.prog 21 := ⟨Try.f21, Try.func21, by kernel_rfl, rfl⟩
theorem can24 : Callable Try.prog 24 := ⟨Try.f24, Try.func24, by kernel_rfl, rfl⟩
/-- The entry of the examples. -/
def ofE (k : List UInt8) (q : Int) : En.Entry := ⟨k, [], q, false⟩
theorem flat_rows (L : List Row) (hs : ∀ p ∈ L, p.1.cells = #[p.1]) : flat (vals L) = vals L := by
  induction L with
  | nil => rfl
  | cons p r ih =>
    rw [vals, List.map_cons, flat_cons, hs p (by simp)]
    have := ih (fun q hq => hs q (by simp [hq]))
    unfold vals at this
    rw [this]; rfl
theorem rows_one2 {w : World} {v : Value} {m : Nat} {cs : List Value} (h : Rd w v 4 m cs) : v.cells = #[v] := by obtain ⟨a, c, rfl, _⟩ := h.shape; rfl

theorem fn10 (w : World) : Rets Try.prog 10 #[] w (fun v w' => v = .bool true ∧ Ch [] w w') := by
  have hall : En.allE [[ofE [97] 1, ofE [98] 2], [ofE [97] 3]] = 0 ∧ En.allL [[ofE [97] 1, ofE [98] 2], [ofE [97] 3]] = [ofE [97] 3, ofE [97] 1, ofE [98] 2] := En.all_ok (by decide) (by decide +kernel) (by decide) (by decide +kernel) (by decide +kernel)
  refine Rets.of (n := 23) (vs := []) Try.func10 rfl rfl rfl ?_
  refine TC.seq ?_
  refine TC.region ?_
  refine TL.assign rfl rfl ?_
  refine TL.done ?_
  refine Thn.go ?_
  refine TC.seq ?_
  refine TC.region ?_
  refine TL.call can24 rfl rfl (fn24 [97] 1 w) (fun v4 w4 hr4 => ?_)
  obtain ⟨rfl, hc4⟩ := hr4
  refine TL.call can24 rfl rfl (fn24 [98] 2 w4) (fun v5 w5 hr5 => ?_)
  obtain ⟨rfl, hc5⟩ := hr5
  refine TL.buildSlice [.tmp 4, .tmp 5] sl25 rfl rfl rfl (by decide) (by first | simp [Value.cells]; done | simp [Value.cells, cl_len]; done) rfl (fun w6 hb6 hc6 hz6 => ?_)
  have r6 : Rd w6 (.slice (some ⟨w5.heap.size, 0, none⟩) 2 2) 4 2 ([ofE [97] 1, ofE [98] 2].flatMap cl) := Rd.ofFlat (vs := [.agg (cl (ofE [97] 1)).toArray, .agg (cl (ofE [98] 2)).toArray]) hb6 (by simp [Value.cells, cl_len]) rfl (by decide)
  refine TL.call can24 rfl rfl (fn24 [97] 3 w6) (fun v7 w7 hr7 => ?_)
  obtain ⟨rfl, hc7⟩ := hr7
  refine TL.buildSlice [.tmp 7] sl25 rfl rfl rfl (by decide) (by first | simp [Value.cells]; done | simp [Value.cells, cl_len]; done) rfl (fun w8 hb8 hc8 hz8 => ?_)
  have r8 : Rd w8 (.slice (some ⟨w7.heap.size, 0, none⟩) 1 1) 4 1 ([ofE [97] 3].flatMap cl) := recOne (x := ofE [97] 3) hb8
  refine TL.buildSlice [.tmp 6, .tmp 8] sl22 rfl rfl rfl (by decide) (by first | simp [Value.cells]; done | simp [Value.cells, cl_len]; done) rfl (fun w9 hb9 hc9 hz9 => ?_)
  have r9 : Rd w9 (.slice (some ⟨w8.heap.size, 0, none⟩) 2 2) 1 2 (vals [(.slice (some ⟨w5.heap.size, 0, none⟩) 2 2, [ofE [97] 1, ofE [98] 2]), (.slice (some ⟨w7.heap.size, 0, none⟩) 1 1, [ofE [97] 3])]) := Rd.ofFlat (vs := vals [(.slice (some ⟨w5.heap.size, 0, none⟩) 2 2, [ofE [97] 1, ofE [98] 2]), (.slice (some ⟨w7.heap.size, 0, none⟩) 1 1, [ofE [97] 3])]) hb9 (by simp [vals, Value.cells]) rfl (by decide)
  have q9 : Ch [] w w9 := hc4.trans0 (hc5.trans0 (hc6.trans0 (hc7.trans0 (hc8.trans0 hc9))))
  refine TL.call can12 rfl rfl (fn12 _ [(.slice (some ⟨w5.heap.size, 0, none⟩) 2 2, [ofE [97] 1, ofE [98] 2]), (.slice (some ⟨w7.heap.size, 0, none⟩) 1 1, [ofE [97] 3])] w9 r9 (fun p hp => by simp only [List.mem_cons, List.not_mem_nil, or_false] at hp; rcases hp with rfl | rfl; exact r6.ch0 (hc7.trans0 (hc8.trans0 hc9)); exact r8.ch0 hc9) (by show (3 : Nat) ≤ 2000000; decide)) (fun v10 w10 hr10 => ?_)
  rw [show En.allE (List.map (·.2) [(Value.slice (some ⟨w5.heap.size, 0, none⟩) 2 2, [ofE [97] 1, ofE [98] 2]), (Value.slice (some ⟨w7.heap.size, 0, none⟩) 1 1, [ofE [97] 3])]) = 0 from hall.1, show En.allL (List.map (·.2) [(Value.slice (some ⟨w5.heap.size, 0, none⟩) 2 2, [ofE [97] 1, ofE [98] 2]), (Value.slice (some ⟨w7.heap.size, 0, none⟩) 1 1, [ofE [97] 3])]) = [ofE [97] 3, ofE [97] 1, ofE [98] 2] from hall.2] at hr10
  obtain ⟨o10, rfl, hv10, hc10⟩ := hr10
  refine TL.move rfl rfl ?_
  refine TL.extract rfl rfl rfl ?_
  refine TL.extract rfl rfl rfl ?_
  refine TL.assign rfl rfl ?_
  refine TL.assign rfl rfl ?_
  refine TL.done ?_
  refine Thn.go ?_
  refine TC.seq ?_
  refine TC.region ?_
  refine TL.move rfl rfl ?_
  refine TL.eql rfl rfl rfl ?_
  refine TL.yes (rfl) ?_
  refine TL.move rfl rfl ?_
  refine TL.guardYes (d := 15) rfl rfl rfl ?_
  refine TL.move rfl rfl ?_
  refine TL.guardYes (d := 15) rfl rfl rfl ?_
  refine TL.call can24 rfl rfl (fn24 [97] 3 w10) (fun v17 w17 hr17 => ?_)
  obtain ⟨rfl, hc17⟩ := hr17
  refine TL.guardYes (d := 15) rfl rfl rfl ?_
  refine TL.call can24 rfl rfl (fn24 [97] 1 w17) (fun v18 w18 hr18 => ?_)
  obtain ⟨rfl, hc18⟩ := hr18
  refine TL.guardYes (d := 15) rfl rfl rfl ?_
  refine TL.call can24 rfl rfl (fn24 [98] 2 w18) (fun v19 w19 hr19 => ?_)
  obtain ⟨rfl, hc19⟩ := hr19
  refine TL.guardYes (d := 15) rfl rfl rfl ?_
  refine TL.buildSlice [.tmp 17, .tmp 18, .tmp 19] sl25 rfl rfl rfl (by decide) (by first | simp [Value.cells]; done | simp [Value.cells, cl_len]; done) rfl (fun w20 hb20 hc20 hz20 => ?_)
  have r20 : Rd w20 (.slice (some ⟨w19.heap.size, 0, none⟩) 3 3) 4 3 ([ofE [97] 3, ofE [97] 1, ofE [98] 2].flatMap cl) := Rd.ofFlat (vs := [.agg (cl (ofE [97] 3)).toArray, .agg (cl (ofE [97] 1)).toArray, .agg (cl (ofE [98] 2)).toArray]) hb20 (by simp [Value.cells, cl_len]) rfl (by decide)
  have q20 : Ch [] w10 w20 := hc17.trans0 (hc18.trans0 (hc19.trans0 hc20))
  refine TL.guardYes (d := 15) rfl rfl rfl ?_
  refine TL.call can13 rfl rfl (fn13 _ _ [ofE [97] 3, ofE [97] 1, ofE [98] 2] [ofE [97] 3, ofE [97] 1, ofE [98] 2] w20 ((Rd.ofOwn hv10).ch0 q20) r20) (fun v21 w21 hr21 => ?_)
  obtain ⟨rfl, hc21⟩ := hr21
  refine TL.yes (rfl) ?_
  refine TL.pickT rfl rfl rfl rfl ?_
  refine TL.assign rfl rfl ?_
  refine TL.done ?_
  refine Thn.go ?_
  refine TC.ret ?_
  refine Ends.ret [0] rfl rfl ?_
  exact ⟨rfl, q9.trans0 (hc10.trans0 (q20.trans0 hc21))⟩

theorem fn5 (av : Value) (l : List En.Entry) (q : Int) (t : Bool) (w : World) (ha : Rd w av 4 l.length (l.flatMap cl)) : Rets Try.prog 5 #[av, .int .i64 q, .bool t] w (fun v w' => v = .bool true ∧ Ch [] w w') := by
  obtain ⟨ad, c, rfl, _⟩ := ha.shape
  refine Rets.of (n := 79) (vs := [_, _, _]) Try.func5 rfl rfl rfl ?_
  refine TC.seq ?_
  refine TC.region ?_
  refine TL.assign rfl rfl ?_
  refine TL.done ?_
  refine Thn.go ?_
  refine TC.seq ?_
  refine TC.region ?_
  refine TL.call can10 rfl rfl (fn10 w) (fun v13 w13 hr13 => ?_)
  obtain ⟨rfl, hc13⟩ := hr13
  refine TL.assign rfl rfl ?_
  refine TL.done ?_
  refine Thn.go ?_
  refine TC.seq ?_
  refine TC.seq ?_
  refine TC.region ?_
  refine TL.move rfl rfl ?_
  refine TL.not rfl rfl ?_
  refine TL.done ?_
  refine Thn.go ?_
  refine TC.condF rfl rfl ?_
  refine TC.skip ?_
  refine Thn.go ?_
  refine TC.seq ?_
  refine TC.seq ?_
  refine TC.region ?_
  refine TL.move rfl rfl ?_
  refine TL.lenSlice Try.underlying25 rfl rfl ?_
  refine TL.gtr rfl rfl rfl ?_
  refine TL.done ?_
  refine Thn.go ?_
  refine TC.condP rfl (fun h2 => ?_) (fun h2 => ?_)
  ·
    refine TC.seq ?_
    refine TC.region ?_
    refine TL.move rfl rfl ?_
    refine TL.assign rfl rfl ?_
    refine TL.done ?_
    refine Thn.go ?_
    refine TC.ret ?_
    refine Thn.ret ?_
    refine Ends.ret [6] rfl rfl ?_
    exact ⟨rfl, hc13⟩
  ·
    have hl2 : l.length ≤ 200 := by omega
    refine TC.skip ?_
    refine Thn.go ?_
    refine TC.seq ?_
    refine TC.region ?_
    refine TL.move rfl rfl ?_
    refine TL.move rfl rfl ?_
    refine TL.move rfl rfl ?_
    refine TL.call can21 rfl rfl (fn21 _ l q t w13 (ha.ch0 hc13)) (fun v24 w24 hr24 => ?_)
    obtain ⟨o24, rfl, hv24, hc24⟩ := hr24
    have q24 := hc13.trans0 hc24
    refine TL.move rfl rfl ?_
    refine TL.extract rfl rfl rfl ?_
    refine TL.extract rfl rfl rfl ?_
    refine TL.assign rfl rfl ?_
    refine TL.assign rfl rfl ?_
    refine TL.done ?_
    refine Thn.go ?_
    refine TC.seq ?_
    refine TC.seq ?_
    refine TC.region ?_
    refine TL.move rfl rfl ?_
    refine TL.neq rfl rfl rfl ?_
    refine TL.done ?_
    refine Thn.go ?_
    refine TC.condP rfl (fun h3 => ?_) (fun h3 => ?_)
    ·
      have f1 : En.thinL l q t = [] := if_neg (by omega)
      rw [f1] at hv24
      obtain ⟨d1, p1, rfl⟩ := hv24.shape
      refine TC.seq ?_
      refine TC.region ?_
      refine TL.move rfl rfl ?_
      refine TL.move rfl rfl ?_
      refine TL.guardYes (d := 30) rfl rfl rfl ?_
      refine TL.move rfl rfl ?_
      refine TL.guardYes (d := 30) rfl rfl rfl ?_
      refine TL.lenSlice Try.underlying25 rfl rfl ?_
      refine TL.guardYes (d := 30) rfl rfl rfl ?_
      refine TL.eql rfl rfl rfl ?_
      refine TL.yes (rfl) ?_
      refine TL.pickT rfl rfl rfl rfl ?_
      refine TL.assign rfl rfl ?_
      refine TL.done ?_
      refine Thn.go ?_
      refine TC.ret ?_
      refine Thn.ret ?_
      refine Ends.ret [6] rfl rfl ?_
      exact ⟨rfl, q24⟩
    ·
      have h0 : En.thinE l q = 0 := by omega
      obtain ⟨hmx, hb, _⟩ := En.thin_zero h0
      have hs := En.bads_rise hb
      have f1 : En.thinL l q t = En.thin l q t := if_pos h0
      rw [f1] at hv24
      have g0 := (En.thin_good t h0).1
      have g1 : En.thinL (En.thin l q t) q t = En.thin l q t := by rw [En.thinL, if_pos g0, En.thin_thin]
      have hlen := (En.thin_sub l q t).length_le
      obtain ⟨d1, p1, rfl⟩ := hv24.shape
      refine TC.skip ?_
      refine Thn.go ?_
      refine TC.seq ?_
      refine TC.region ?_
      refine TL.move rfl rfl ?_
      refine TL.move rfl rfl ?_
      refine TL.move rfl rfl ?_
      refine TL.call can21 rfl rfl (fn21 _ (En.thin l q t) q t w24 (Rd.ofOwn hv24)) (fun v39 w39 hr39 => ?_)
      rw [g0, g1] at hr39
      obtain ⟨o39, rfl, hv39, hc39⟩ := hr39
      refine TL.move rfl rfl ?_
      refine TL.extract rfl rfl rfl ?_
      refine TL.extract rfl rfl rfl ?_
      refine TL.assign rfl rfl ?_
      refine TL.assign rfl rfl ?_
      refine TL.done ?_
      refine Thn.go ?_
      refine TC.seq ?_
      refine TC.seq ?_
      refine TC.region ?_
      refine TL.move rfl rfl ?_
      refine TL.neq rfl rfl rfl ?_
      refine TL.no (by simp) ?_
      refine TL.move rfl rfl ?_
      refine TL.guardYes (d := 44) rfl rfl rfl ?_
      refine TL.move rfl rfl ?_
      refine TL.guardYes (d := 44) rfl rfl rfl ?_
      refine TL.move rfl rfl ?_
      refine TL.guardYes (d := 44) rfl rfl rfl ?_
      refine TL.call can13 rfl rfl (fn13 _ _ (En.thin l q t) (En.thin l q t) w39 (Rd.ofOwn (hv24.ch0 hc39)) (Rd.ofOwn hv39)) (fun v47 w47 hr47 => ?_)
      obtain ⟨rfl, hc47⟩ := hr47
      refine TL.guardYes (d := 44) rfl rfl rfl ?_
      refine TL.notP rfl rfl ?_
      refine TL.no (by simp) ?_
      have hv := (hv24.ch0 hc39).ch0 hc47
      have q47 := q24.trans0 (hc39.trans0 hc47)
      refine TL.pickF rfl rfl rfl rfl ?_
      refine TL.done ?_
      refine Thn.go ?_
      refine TC.condF rfl rfl ?_
      refine TC.skip ?_
      refine Thn.go ?_
      refine TC.seq ?_
      refine TC.seq ?_
      refine TC.region ?_
      refine TL.assign rfl rfl ?_
      refine TL.done ?_
      refine Thn.go ?_
      refine TC.block ?_
      refine TC.loop1 (fun (i : Nat) => [(1, .int .i64 q), (7, .bool true), (8, .slice d1 (En.thin l q t).length p1), (12, .int .i64 ((i + 1 : Nat) : Int))]) (fun i w' => Ch [] w47 w') (fun i => (En.thin l q t).length - i) 0 (by repeat (first | exact trivial | refine ⟨rfl, ?_⟩)) (Ch.refl _ _) (fun i w' hch => ?_)
      refine TC.seq ?_
      refine TC.seq ?_
      refine TC.region ?_
      refine TL.move rfl rfl ?_
      refine TL.move rfl rfl ?_
      refine TL.lenSlice Try.underlying25 rfl rfl ?_
      refine TL.lss rfl rfl rfl ?_
      refine TL.done ?_
      refine Thn.go ?_
      refine TC.condP rfl (fun h5 => ?_) (fun h5 => ?_)
      ·
        have hil : i + 1 < (En.thin l q t).length := by omega
        obtain ⟨b1, o1, rfl, hall⟩ := recAll ((Rd.ofOwn hv).ch0 hch) (by omega)
        have honce := En.thin_once hs (q := q) (t := t) (i := i + 1) (by omega) hil
        rw [Nat.add_sub_cancel] at honce
        refine TC.skip ?_
        refine Thn.go ?_
        refine TC.seq ?_
        refine TC.block ?_
        refine TC.cut0 ([(1, .int .i64 q), (7, .bool true), (8, .slice (some ⟨b1, o1, none⟩) (En.thin l q t).length p1), (12, .int .i64 ((i + 1 : Nat) : Int)), (77, .bool false)]) (fun w3 => Ch [] w' w3) (fun K6 hK6 => ?_) (fun w3 hH => ?_)
        ·
          refine TC.regionQ (fun w6 => Ch [] w' w6) mixed0 (by kernel_rfl) (Ch.drew [] _) ?_
          refine TQ.via rfl rfl rfl rfl (fun w2 hw2 => TL.move rfl rfl (TL.done ⟨rfl, rfl⟩)) ?_
          refine TQ.via rfl rfl rfl rfl (fun w2 hw2 => TL.move rfl rfl (TL.done ⟨rfl, rfl⟩)) ?_
          refine TQ.via rfl rfl rfl rfl (fun w2 hw2 => TL.sub_i64 rfl rfl (by omega) (by omega) rfl (TL.done ⟨rfl, rfl⟩)) ?_
          refine TQ.via rfl rfl rfl rfl (fun w2 hw2 => TL.indexAddr (i) sl25 rfl rfl (by first | rfl | omega) (by omega) rfl (TL.done ⟨rfl, rfl⟩)) ?_
          refine TQ.via rfl rfl rfl rfl (fun w2 hw2 => TL.fieldAddr fd32k0 rfl rfl (TL.done ⟨rfl, rfl⟩)) ?_
          refine TQ.via rfl rfl rfl rfl (fun w2 hw2 => TL.load pl9 rfl ((show _ = some (str (En.rec (En.thin l q t) i).key) from hall i (by omega) _ hw2 0 (by decide))) rfl (TL.done ⟨rfl, rfl⟩)) ?_
          refine TQ.via rfl rfl rfl rfl (fun w2 hw2 => TL.move rfl rfl (TL.done ⟨rfl, rfl⟩)) ?_
          refine TQ.via rfl rfl rfl rfl (fun w2 hw2 => TL.move rfl rfl (TL.done ⟨rfl, rfl⟩)) ?_
          refine TQ.via rfl rfl rfl rfl (fun w2 hw2 => TL.indexAddr (i + 1) sl25 rfl rfl (by first | rfl | omega) (by omega) rfl (TL.done ⟨rfl, rfl⟩)) ?_
          refine TQ.via rfl rfl rfl rfl (fun w2 hw2 => TL.fieldAddr fd32k0 rfl rfl (TL.done ⟨rfl, rfl⟩)) ?_
          refine TQ.via rfl rfl rfl rfl (fun w2 hw2 => TL.load pl9 rfl ((show _ = some (str (En.rec (En.thin l q t) (i + 1)).key) from hall (i + 1) hil _ hw2 0 (by decide))) rfl (TL.done ⟨rfl, rfl⟩)) ?_
          refine TQ.via rfl rfl rfl rfl (fun w2 hw2 => TL.eqlStr rfl rfl rfl (TL.done ⟨rfl, rfl⟩)) ?_
          refine TQ.em (fun e67 => ?_) (fun e67 => ?_)
          ·
            refine TQ.via rfl rfl rfl rfl (fun w2 hw2 => TL.move rfl rfl (TL.done ⟨rfl, rfl⟩)) ?_
            refine TQ.guardYes (d := 68) rfl rfl rfl ?_
            refine TQ.via rfl rfl rfl rfl (fun w2 hw2 => TL.move rfl rfl (TL.done ⟨rfl, rfl⟩)) ?_
            refine TQ.guardYes (d := 68) rfl rfl rfl ?_
            refine TQ.via rfl rfl rfl rfl (fun w2 hw2 => TL.move rfl rfl (TL.done ⟨rfl, rfl⟩)) ?_
            refine TQ.guardYes (d := 68) rfl rfl rfl ?_
            refine TQ.via rfl rfl rfl rfl (fun w2 hw2 => TL.sub_i64 rfl rfl (by omega) (by omega) rfl (TL.done ⟨rfl, rfl⟩)) ?_
            refine TQ.guardYes (d := 68) rfl rfl rfl ?_
            refine TQ.via rfl rfl rfl rfl (fun w2 hw2 => TL.indexAddr (i) sl25 rfl rfl (by first | rfl | omega) (by omega) rfl (TL.done ⟨rfl, rfl⟩)) ?_
            refine TQ.guardYes (d := 68) rfl rfl rfl ?_
            refine TQ.via rfl rfl rfl rfl (fun w2 hw2 => TL.fieldAddr fd32k2 rfl rfl (TL.done ⟨rfl, rfl⟩)) ?_
            refine TQ.guardYes (d := 68) rfl rfl rfl ?_
            refine TQ.via rfl rfl rfl rfl (fun w2 hw2 => TL.load pl3 rfl ((show _ = some (Value.int .i64 (En.rec (En.thin l q t) i).seq) from hall i (by omega) _ hw2 2 (by decide))) rfl (TL.done ⟨rfl, rfl⟩)) ?_
            refine TQ.guardYes (d := 68) rfl rfl rfl ?_
            refine TQ.via rfl rfl rfl rfl (fun w2 hw2 => TL.move rfl rfl (TL.done ⟨rfl, rfl⟩)) ?_
            refine TQ.guardYes (d := 68) rfl rfl rfl ?_
            refine TQ.via rfl rfl rfl rfl (fun w2 hw2 => TL.leq rfl rfl rfl (TL.done ⟨rfl, rfl⟩)) ?_
            refine TQ.no (fun h => honce ⟨e67, h⟩) ?_
            refine TQ.via rfl rfl rfl rfl (fun w2 hw2 => TL.pickT rfl rfl rfl rfl (TL.done ⟨rfl, rfl⟩)) ?_
            refine TQ.done (fun w2 hw2 => ?_)
            exact hK6  _ _ (by repeat (first | exact trivial | refine ⟨rfl, ?_⟩ | refine ⟨congrArg (fun b => some (Value.bool b)) (by first | exact (decide_eq_true (by grind)).symm | exact (decide_eq_false (by grind)).symm | exact decide_eq_decide.2 (by grind) | exact decide_eq_true (by grind) | exact decide_eq_false (by grind) | (exfalso; grind)), ?_⟩)) (hw2)
          ·
            refine TQ.via rfl rfl rfl rfl (fun w2 hw2 => TL.move rfl rfl (TL.done ⟨rfl, rfl⟩)) ?_
            refine TQ.guardNo (d := 68) rfl rfl rfl rfl rfl ?_
            refine TQ.guardNo (d := 68) rfl rfl rfl rfl rfl ?_
            refine TQ.guardNo (d := 68) rfl rfl rfl rfl rfl ?_
            refine TQ.guardNo (d := 68) rfl rfl rfl rfl rfl ?_
            refine TQ.guardNo (d := 68) rfl rfl rfl rfl rfl ?_
            refine TQ.guardNo (d := 68) rfl rfl rfl rfl rfl ?_
            refine TQ.guardNo (d := 68) rfl rfl rfl rfl rfl ?_
            refine TQ.guardNo (d := 68) rfl rfl rfl rfl rfl ?_
            refine TQ.via rfl rfl rfl rfl (fun w2 hw2 => TL.pickF rfl rfl rfl rfl (TL.done ⟨rfl, rfl⟩)) ?_
            refine TQ.done (fun w2 hw2 => ?_)
            exact hK6  _ _ (by repeat (first | exact trivial | refine ⟨rfl, ?_⟩ | refine ⟨congrArg (fun b => some (Value.bool b)) (by first | exact (decide_eq_true (by grind)).symm | exact (decide_eq_false (by grind)).symm | exact decide_eq_decide.2 (by grind) | exact decide_eq_true (by grind) | exact decide_eq_false (by grind) | (exfalso; grind)), ?_⟩)) (hw2)
        ·
          refine TC.condF rfl rfl ?_
          refine TC.skip ?_
          refine Blk.go ?_
          refine Thn.go ?_
          refine TC.region ?_
          refine TL.move rfl rfl ?_
          refine TL.add_i64 rfl rfl (by omega) (by omega) rfl ?_
          refine TL.assign rfl rfl ?_
          refine TL.done ?_
          refine Lp.go (i + 1) (by repeat (first | exact trivial | refine ⟨rfl, ?_⟩)) ?_ (by first | omega | (dsimp only; omega))
          exact hch.trans0 hH
      ·
        refine TC.exit ?_
        refine Thn.exit ?_
        refine Lp.exit ?_
        refine Blk.hit ?_
        refine Thn.go ?_
        refine TC.seq ?_
        refine TC.region ?_
        refine TL.move rfl rfl ?_
        refine TL.assign rfl rfl ?_
        refine TL.done ?_
        refine Thn.go ?_
        refine TC.ret ?_
        refine Ends.ret [6] rfl rfl ?_
        exact ⟨rfl, q47.trans0 hch⟩

theorem fn6 (av : Value) (l : List En.Entry) (q a : Int) (bv : Value) (o : List En.Entry) (w : World) (ha : Rd w av 4 l.length (l.flatMap cl)) (hb : Rd w bv 4 o.length (o.flatMap cl)) : Rets Try.prog 6 #[av, .int .i64 q, .int .i64 a, bv] w (fun v w' => v = .bool true ∧ Ch [] w w') := by
  obtain ⟨ad, c, rfl, _⟩ := ha.shape
  obtain ⟨bd, d, rfl, _⟩ := hb.shape
  have hmm : maxLen = 9223372036854775807 := rfl
  refine Rets.of (n := 181) (vs := [_, _, _, _]) Try.func6 rfl rfl rfl ?_
  refine TC.seq ?_
  refine TC.region ?_
  refine TL.assign rfl rfl ?_
  refine TL.done ?_
  refine Thn.go ?_
  refine TC.seq ?_
  refine TC.region ?_
  refine TL.call can10 rfl rfl (fn10 w) (fun v24 w24 hr24 => ?_)
  obtain ⟨rfl, hc24⟩ := hr24
  refine TL.assign rfl rfl ?_
  refine TL.done ?_
  refine Thn.go ?_
  refine TC.seq ?_
  refine TC.seq ?_
  refine TC.region ?_
  refine TL.move rfl rfl ?_
  refine TL.not rfl rfl ?_
  refine TL.done ?_
  refine Thn.go ?_
  refine TC.condF rfl rfl ?_
  refine TC.skip ?_
  refine Thn.go ?_
  refine TC.seq ?_
  refine TC.regionBool (d := 39) (p := (200 < l.length ∨ 200 < o.length ∨ a < q)) (fun K2 hK2 => ?_) ?_
  ·
    refine TL.move rfl rfl ?_
    refine TL.lenSlice Try.underlying25 rfl rfl ?_
    refine TL.gtr rfl rfl rfl ?_
    refine TL.em (fun e29 => ?_) (fun e29 => ?_)
    ·
      refine TL.move rfl rfl ?_
      refine TL.guardNo (d := 30) rfl rfl rfl rfl rfl ?_
      refine TL.guardNo (d := 30) rfl rfl rfl rfl rfl ?_
      refine TL.guardNo (d := 30) rfl rfl rfl rfl rfl ?_
      refine TL.pickT rfl rfl rfl rfl ?_
      refine TL.move rfl rfl ?_
      refine TL.guardNo (d := 35) rfl rfl rfl rfl rfl ?_
      refine TL.guardNo (d := 35) rfl rfl rfl rfl rfl ?_
      refine TL.guardNo (d := 35) rfl rfl rfl rfl rfl ?_
      refine TL.pickT rfl rfl rfl rfl ?_
      refine TL.done ?_
      refine hK2 _ ?_
      refine Le.here rfl (by first | exact decide_eq_true (by omega) | exact decide_eq_false (by omega) | exact decide_eq_decide.2 (by omega) | exact decide_eq_true (by grind) | exact decide_eq_false (by grind) | exact decide_eq_decide.2 (by grind)) ?_
      repeat (first | exact Le.refl _ | refine Le.skip rfl ?_)
    ·
      refine TL.move rfl rfl ?_
      refine TL.guardYes (d := 30) rfl rfl rfl ?_
      refine TL.move rfl rfl ?_
      refine TL.guardYes (d := 30) rfl rfl rfl ?_
      refine TL.lenSlice Try.underlying25 rfl rfl ?_
      refine TL.guardYes (d := 30) rfl rfl rfl ?_
      refine TL.gtr rfl rfl rfl ?_
      refine TL.em (fun e33 => ?_) (fun e33 => ?_)
      ·
        refine TL.pickF rfl rfl rfl rfl ?_
        refine TL.move rfl rfl ?_
        refine TL.guardNo (d := 35) rfl rfl rfl rfl rfl ?_
        refine TL.guardNo (d := 35) rfl rfl rfl rfl rfl ?_
        refine TL.guardNo (d := 35) rfl rfl rfl rfl rfl ?_
        refine TL.pickT rfl rfl rfl rfl ?_
        refine TL.done ?_
        refine hK2 _ ?_
        refine Le.here rfl (by first | exact decide_eq_true (by omega) | exact decide_eq_false (by omega) | exact decide_eq_decide.2 (by omega) | exact decide_eq_true (by grind) | exact decide_eq_false (by grind) | exact decide_eq_decide.2 (by grind)) ?_
        repeat (first | exact Le.refl _ | refine Le.skip rfl ?_)
      ·
        refine TL.pickF rfl rfl rfl rfl ?_
        refine TL.move rfl rfl ?_
        refine TL.guardYes (d := 35) rfl rfl rfl ?_
        refine TL.move rfl rfl ?_
        refine TL.guardYes (d := 35) rfl rfl rfl ?_
        refine TL.move rfl rfl ?_
        refine TL.guardYes (d := 35) rfl rfl rfl ?_
        refine TL.lss rfl rfl rfl ?_
        refine TL.pickF rfl rfl rfl rfl ?_
        refine TL.done ?_
        refine hK2 _ ?_
        refine Le.here rfl (by first | exact decide_eq_true (by omega) | exact decide_eq_false (by omega) | exact decide_eq_decide.2 (by omega) | exact decide_eq_true (by grind) | exact decide_eq_false (by grind) | exact decide_eq_decide.2 (by grind)) ?_
        repeat (first | exact Le.refl _ | refine Le.skip rfl ?_)
  refine TC.condP rfl (fun h5 => ?_) (fun h5 => ?_)
  ·
    refine TC.seq ?_
    refine TC.region ?_
    refine TL.move rfl rfl ?_
    refine TL.assign rfl rfl ?_
    refine TL.done ?_
    refine Thn.go ?_
    refine TC.ret ?_
    refine Thn.ret ?_
    refine Ends.ret [8] rfl rfl ?_
    exact ⟨rfl, hc24⟩
  ·
    have hno : ¬ (200 < l.length ∨ 200 < o.length ∨ a < q) := by assumption
    have ha0 := ha.ch0 hc24; have hb0 := hb.ch0 hc24
    refine TC.skip ?_
    refine Thn.go ?_
    refine TC.seq ?_
    refine TC.seq ?_
    refine TC.region ?_
    refine TL.assign rfl rfl ?_
    refine TL.done ?_
    refine Thn.go ?_
    refine TC.block ?_
    refine TC.loop1 (fun (i : Nat) => [(0, .slice ad l.length c), (1, .int .i64 q), (2, .int .i64 a), (3, .slice bd o.length d), (9, .bool true), (10, .int .i64 (i : Int))]) (fun i w' => i ≤ o.length ∧ (∀ j, j < i → ∀ p, p < l.length → ¬ ((En.rec o j).key = (En.rec l p).key ∧ (En.rec o j).seq ≥ (En.rec l p).seq)) ∧ Ch [] w24 w') (fun i => o.length - i) 0 (by repeat (first | exact trivial | refine ⟨rfl, ?_⟩)) (⟨by omega, fun j hj => by omega, Ch.refl _ _⟩) (fun i w' hH => ?_)
    obtain ⟨hi, hg, hch⟩ := hH
    refine TC.seq ?_
    refine TC.seq ?_
    refine TC.region ?_
    refine TL.move rfl rfl ?_
    refine TL.move rfl rfl ?_
    refine TL.lenSlice Try.underlying25 rfl rfl ?_
    refine TL.lss rfl rfl rfl ?_
    refine TL.done ?_
    refine Thn.go ?_
    refine TC.condP rfl (fun h6 => ?_) (fun h6 => ?_)
    ·
      have hil : i < o.length := by omega
      obtain ⟨b2, o2, rfl, hco⟩ := recIn hb0 hil
      refine TC.skip ?_
      refine Thn.go ?_
      refine TC.seq ?_
      refine TC.block ?_
      refine TC.seq ?_
      refine TC.region ?_
      refine TL.assign rfl rfl ?_
      refine TL.done ?_
      refine Thn.go ?_
      refine TC.block ?_
      refine TC.loop1 (fun (p : Nat) => [(0, .slice ad l.length c), (1, .int .i64 q), (2, .int .i64 a), (3, .slice (some ⟨b2, o2, none⟩) o.length d), (9, .bool true), (10, .int .i64 (i : Int)), (11, .int .i64 (p : Int))]) (fun p w' => p ≤ l.length ∧ (∀ j, j < p → ¬ ((En.rec o i).key = (En.rec l j).key ∧ (En.rec o i).seq ≥ (En.rec l j).seq)) ∧ Ch [] w24 w') (fun p => l.length - p) 0 (by repeat (first | exact trivial | refine ⟨rfl, ?_⟩)) (⟨by omega, fun j hj => by omega, hch⟩) (fun p w2 hH2 => ?_)
      obtain ⟨hp, hgp, hch2⟩ := hH2
      refine TC.seq ?_
      refine TC.seq ?_
      refine TC.region ?_
      refine TL.move rfl rfl ?_
      refine TL.move rfl rfl ?_
      refine TL.lenSlice Try.underlying25 rfl rfl ?_
      refine TL.lss rfl rfl rfl ?_
      refine TL.done ?_
      refine Thn.go ?_
      refine TC.condP rfl (fun h7 => ?_) (fun h7 => ?_)
      ·
        have hpl : p < l.length := by omega
        obtain ⟨b1, o1, rfl, hcl⟩ := recIn ha0 hpl
        refine TC.skip ?_
        refine Thn.go ?_
        refine TC.seq ?_
        refine TC.block ?_
        refine TC.cut0 ([(0, .slice (some ⟨b1, o1, none⟩) l.length c), (1, .int .i64 q), (2, .int .i64 a), (3, .slice (some ⟨b2, o2, none⟩) o.length d), (9, .bool true), (10, .int .i64 (i : Int)), (11, .int .i64 (p : Int)), (76, .bool (decide ((En.rec o i).key = (En.rec l p).key ∧ (En.rec o i).seq ≥ (En.rec l p).seq)))]) (fun w3 => Ch [] w24 w3) (fun K8 hK8 => ?_) (fun w3 hH => ?_)
        ·
          refine TC.regionQ (fun w6 => Ch [] w24 w6) mixed0 (by kernel_rfl) (hch2.trans0 (Ch.drew [] _)) ?_
          refine TQ.via rfl rfl rfl rfl (fun w2 hw2 => TL.move rfl rfl (TL.done ⟨rfl, rfl⟩)) ?_
          refine TQ.via rfl rfl rfl rfl (fun w2 hw2 => TL.move rfl rfl (TL.done ⟨rfl, rfl⟩)) ?_
          refine TQ.via rfl rfl rfl rfl (fun w2 hw2 => TL.indexAddr (i) sl25 rfl rfl (by first | rfl | omega) (by omega) rfl (TL.done ⟨rfl, rfl⟩)) ?_
          refine TQ.via rfl rfl rfl rfl (fun w2 hw2 => TL.fieldAddr fd32k0 rfl rfl (TL.done ⟨rfl, rfl⟩)) ?_
          refine TQ.via rfl rfl rfl rfl (fun w2 hw2 => TL.load pl9 rfl ((show _ = some (str (En.rec o i).key) from hco _ hw2 0 (by decide))) rfl (TL.done ⟨rfl, rfl⟩)) ?_
          refine TQ.via rfl rfl rfl rfl (fun w2 hw2 => TL.move rfl rfl (TL.done ⟨rfl, rfl⟩)) ?_
          refine TQ.via rfl rfl rfl rfl (fun w2 hw2 => TL.move rfl rfl (TL.done ⟨rfl, rfl⟩)) ?_
          refine TQ.via rfl rfl rfl rfl (fun w2 hw2 => TL.indexAddr (p) sl25 rfl rfl (by first | rfl | omega) (by omega) rfl (TL.done ⟨rfl, rfl⟩)) ?_
          refine TQ.via rfl rfl rfl rfl (fun w2 hw2 => TL.fieldAddr fd32k0 rfl rfl (TL.done ⟨rfl, rfl⟩)) ?_
          refine TQ.via rfl rfl rfl rfl (fun w2 hw2 => TL.load pl9 rfl ((show _ = some (str (En.rec l p).key) from hcl _ hw2 0 (by decide))) rfl (TL.done ⟨rfl, rfl⟩)) ?_
          refine TQ.via rfl rfl rfl rfl (fun w2 hw2 => TL.eqlStr rfl rfl rfl (TL.done ⟨rfl, rfl⟩)) ?_
          refine TQ.em (fun e63 => ?_) (fun e63 => ?_)
          ·
            refine TQ.via rfl rfl rfl rfl (fun w2 hw2 => TL.move rfl rfl (TL.done ⟨rfl, rfl⟩)) ?_
            refine TQ.guardYes (d := 64) rfl rfl rfl ?_
            refine TQ.via rfl rfl rfl rfl (fun w2 hw2 => TL.move rfl rfl (TL.done ⟨rfl, rfl⟩)) ?_
            refine TQ.guardYes (d := 64) rfl rfl rfl ?_
            refine TQ.via rfl rfl rfl rfl (fun w2 hw2 => TL.move rfl rfl (TL.done ⟨rfl, rfl⟩)) ?_
            refine TQ.guardYes (d := 64) rfl rfl rfl ?_
            refine TQ.via rfl rfl rfl rfl (fun w2 hw2 => TL.indexAddr (i) sl25 rfl rfl (by first | rfl | omega) (by omega) rfl (TL.done ⟨rfl, rfl⟩)) ?_
            refine TQ.guardYes (d := 64) rfl rfl rfl ?_
            refine TQ.via rfl rfl rfl rfl (fun w2 hw2 => TL.fieldAddr fd32k2 rfl rfl (TL.done ⟨rfl, rfl⟩)) ?_
            refine TQ.guardYes (d := 64) rfl rfl rfl ?_
            refine TQ.via rfl rfl rfl rfl (fun w2 hw2 => TL.load pl3 rfl ((show _ = some (Value.int .i64 (En.rec o i).seq) from hco _ hw2 2 (by decide))) rfl (TL.done ⟨rfl, rfl⟩)) ?_
            refine TQ.guardYes (d := 64) rfl rfl rfl ?_
            refine TQ.via rfl rfl rfl rfl (fun w2 hw2 => TL.move rfl rfl (TL.done ⟨rfl, rfl⟩)) ?_
            refine TQ.guardYes (d := 64) rfl rfl rfl ?_
            refine TQ.via rfl rfl rfl rfl (fun w2 hw2 => TL.move rfl rfl (TL.done ⟨rfl, rfl⟩)) ?_
            refine TQ.guardYes (d := 64) rfl rfl rfl ?_
            refine TQ.via rfl rfl rfl rfl (fun w2 hw2 => TL.indexAddr (p) sl25 rfl rfl (by first | rfl | omega) (by omega) rfl (TL.done ⟨rfl, rfl⟩)) ?_
            refine TQ.guardYes (d := 64) rfl rfl rfl ?_
            refine TQ.via rfl rfl rfl rfl (fun w2 hw2 => TL.fieldAddr fd32k2 rfl rfl (TL.done ⟨rfl, rfl⟩)) ?_
            refine TQ.guardYes (d := 64) rfl rfl rfl ?_
            refine TQ.via rfl rfl rfl rfl (fun w2 hw2 => TL.load pl3 rfl ((show _ = some (Value.int .i64 (En.rec l p).seq) from hcl _ hw2 2 (by decide))) rfl (TL.done ⟨rfl, rfl⟩)) ?_
            refine TQ.guardYes (d := 64) rfl rfl rfl ?_
            refine TQ.via rfl rfl rfl rfl (fun w2 hw2 => TL.geq rfl rfl rfl (TL.done ⟨rfl, rfl⟩)) ?_
            refine TQ.via rfl rfl rfl rfl (fun w2 hw2 => TL.pickT rfl rfl rfl rfl (TL.done ⟨rfl, rfl⟩)) ?_
            refine TQ.done (fun w2 hw2 => ?_)
            exact hK8  _ _ (by repeat (first | exact trivial | refine ⟨rfl, ?_⟩ | refine ⟨congrArg (fun b => some (Value.bool b)) (by first | exact (decide_eq_true (by grind)).symm | exact (decide_eq_false (by grind)).symm | exact decide_eq_decide.2 (by grind) | exact decide_eq_true (by grind) | exact decide_eq_false (by grind) | (exfalso; grind)), ?_⟩)) (hw2)
          ·
            refine TQ.via rfl rfl rfl rfl (fun w2 hw2 => TL.move rfl rfl (TL.done ⟨rfl, rfl⟩)) ?_
            refine TQ.guardNo (d := 64) rfl rfl rfl rfl rfl ?_
            refine TQ.guardNo (d := 64) rfl rfl rfl rfl rfl ?_
            refine TQ.guardNo (d := 64) rfl rfl rfl rfl rfl ?_
            refine TQ.guardNo (d := 64) rfl rfl rfl rfl rfl ?_
            refine TQ.guardNo (d := 64) rfl rfl rfl rfl rfl ?_
            refine TQ.guardNo (d := 64) rfl rfl rfl rfl rfl ?_
            refine TQ.guardNo (d := 64) rfl rfl rfl rfl rfl ?_
            refine TQ.guardNo (d := 64) rfl rfl rfl rfl rfl ?_
            refine TQ.guardNo (d := 64) rfl rfl rfl rfl rfl ?_
            refine TQ.guardNo (d := 64) rfl rfl rfl rfl rfl ?_
            refine TQ.guardNo (d := 64) rfl rfl rfl rfl rfl ?_
            refine TQ.via rfl rfl rfl rfl (fun w2 hw2 => TL.pickF rfl rfl rfl rfl (TL.done ⟨rfl, rfl⟩)) ?_
            refine TQ.done (fun w2 hw2 => ?_)
            exact hK8  _ _ (by repeat (first | exact trivial | refine ⟨rfl, ?_⟩ | refine ⟨congrArg (fun b => some (Value.bool b)) (by first | exact (decide_eq_true (by grind)).symm | exact (decide_eq_false (by grind)).symm | exact decide_eq_decide.2 (by grind) | exact decide_eq_true (by grind) | exact decide_eq_false (by grind) | (exfalso; grind)), ?_⟩)) (hw2)
        ·
          refine TC.condP rfl (fun h10 => ?_) (fun h10 => ?_)
          ·
            refine TC.seq ?_
            refine TC.region ?_
            refine TL.move rfl rfl ?_
            refine TL.assign rfl rfl ?_
            refine TL.done ?_
            refine Thn.go ?_
            refine TC.ret ?_
            refine Blk.ret ?_
            refine Thn.ret ?_
            refine Lp.ret ?_
            refine Blk.ret ?_
            refine Blk.ret ?_
            refine Thn.ret ?_
            refine Lp.ret ?_
            refine Blk.ret ?_
            refine Thn.ret ?_
            refine Ends.ret [8] rfl rfl ?_
            exact ⟨rfl, hc24.trans0 hH⟩
          ·
            refine TC.skip ?_
            refine Blk.go ?_
            refine Thn.go ?_
            refine TC.region ?_
            refine TL.move rfl rfl ?_
            refine TL.add_i64 rfl rfl (by omega) (by omega) rfl ?_
            refine TL.assign rfl rfl ?_
            refine TL.done ?_
            refine Lp.go (p + 1) (by repeat (first | exact trivial | refine ⟨rfl, ?_⟩)) ?_ (by first | omega | (dsimp only; omega))
            refine ⟨by omega, fun j hj => ?_, hH⟩
            rcases Nat.lt_or_ge j p with h | h
            · exact hgp j h
            · rw [show j = p by omega]; assumption
      ·
        have hpl : p = l.length := by omega
        refine TC.exit ?_
        refine Thn.exit ?_
        refine Lp.exit ?_
        refine Blk.hit ?_
        refine Blk.go ?_
        refine Thn.go ?_
        refine TC.region ?_
        refine TL.move rfl rfl ?_
        refine TL.add_i64 rfl rfl (by omega) (by omega) rfl ?_
        refine TL.assign rfl rfl ?_
        refine TL.done ?_
        refine Lp.go (i + 1) (by repeat (first | exact trivial | refine ⟨rfl, ?_⟩)) ?_ (by first | omega | (dsimp only; omega))
        refine ⟨by omega, fun j hj p' hp' => ?_, hch2⟩
        rcases Nat.lt_or_ge j i with h | h
        · exact hg j h p' hp'
        · rw [show j = i by omega]; exact hgp p' (by omega)
    ·
      have hil : i = o.length := by omega
      have hold : En.Older l o := fun x hx y hy hk => by
        obtain ⟨j, hj, rfl⟩ := List.getElem_of_mem hx
        obtain ⟨p, hp, rfl⟩ := List.getElem_of_mem hy
        rw [En.rec_eq hj, En.rec_eq hp] at hk ⊢
        rcases Int.lt_or_le (En.rec o j).seq (En.rec l p).seq with h | h
        · exact h
        · exact absurd ⟨hk, h⟩ (hg j (by omega) p hp)
      refine TC.exit ?_
      refine Thn.exit ?_
      refine Lp.exit ?_
      refine Blk.hit ?_
      refine Thn.go ?_
      refine TC.seq ?_
      refine TC.region ?_
      refine TL.move rfl rfl ?_
      refine TL.move rfl rfl ?_
      refine TL.call can21 rfl rfl (fn21 _ l q false w' (ha0.ch0 hch)) (fun v81 w81 hr81 => ?_)
      obtain ⟨o81, rfl, hv81, hc81⟩ := hr81
      refine TL.move rfl rfl ?_
      refine TL.extract rfl rfl rfl ?_
      refine TL.extract rfl rfl rfl ?_
      refine TL.assign rfl rfl ?_
      refine TL.assign rfl rfl ?_
      refine TL.done ?_
      refine Thn.go ?_
      refine TC.seq ?_
      refine TC.region ?_
      refine TL.move rfl rfl ?_
      refine TL.move rfl rfl ?_
      refine TL.call can21 rfl rfl (fn21 _ l q true w81 ((ha0.ch0 hch).ch0 hc81)) (fun v87 w87 hr87 => ?_)
      obtain ⟨o87, rfl, hv87, hc87⟩ := hr87
      have q87 := hch.trans0 (hc81.trans0 hc87)
      refine TL.move rfl rfl ?_
      refine TL.extract rfl rfl rfl ?_
      refine TL.extract rfl rfl rfl ?_
      refine TL.assign rfl rfl ?_
      refine TL.assign rfl rfl ?_
      refine TL.done ?_
      refine Thn.go ?_
      refine TC.seq ?_
      refine TC.regionBool (d := 95) (p := (¬ En.thinE l q = 0)) (fun K11 hK11 => ?_) ?_
      ·
        refine TL.move rfl rfl ?_
        refine TL.neq rfl rfl rfl ?_
        refine TL.em (fun e91 => ?_) (fun e91 => ?_)
        ·
          refine TL.move rfl rfl ?_
          refine TL.guardNo (d := 92) rfl rfl rfl rfl rfl ?_
          refine TL.guardNo (d := 92) rfl rfl rfl rfl rfl ?_
          refine TL.pickT rfl rfl rfl rfl ?_
          refine TL.done ?_
          refine hK11 _ ?_
          refine Le.here rfl (by first | exact decide_eq_true (by omega) | exact decide_eq_false (by omega) | exact decide_eq_decide.2 (by omega) | exact decide_eq_true (by grind) | exact decide_eq_false (by grind) | exact decide_eq_decide.2 (by grind)) ?_
          repeat (first | exact Le.refl _ | refine Le.skip rfl ?_)
        ·
          refine TL.move rfl rfl ?_
          refine TL.guardYes (d := 92) rfl rfl rfl ?_
          refine TL.move rfl rfl ?_
          refine TL.guardYes (d := 92) rfl rfl rfl ?_
          refine TL.neq rfl rfl rfl ?_
          refine TL.pickF rfl rfl rfl rfl ?_
          refine TL.done ?_
          refine hK11 _ ?_
          refine Le.here rfl (by first | exact decide_eq_true (by omega) | exact decide_eq_false (by omega) | exact decide_eq_decide.2 (by omega) | exact decide_eq_true (by grind) | exact decide_eq_false (by grind) | exact decide_eq_decide.2 (by grind)) ?_
          repeat (first | exact Le.refl _ | refine Le.skip rfl ?_)
      refine TC.condP rfl (fun h13 => ?_) (fun h13 => ?_)
      ·
        refine TC.seq ?_
        refine TC.region ?_
        refine TL.move rfl rfl ?_
        refine TL.move rfl rfl ?_
        refine TL.guardYes (d := 97) rfl rfl rfl ?_
        refine TL.move rfl rfl ?_
        refine TL.guardYes (d := 97) rfl rfl rfl ?_
        refine TL.move rfl rfl ?_
        refine TL.guardYes (d := 97) rfl rfl rfl ?_
        refine TL.eql rfl rfl rfl ?_
        refine TL.yes (rfl) ?_
        refine TL.pickT rfl rfl rfl rfl ?_
        refine TL.assign rfl rfl ?_
        refine TL.done ?_
        refine Thn.go ?_
        refine TC.ret ?_
        refine Thn.ret ?_
        refine Ends.ret [8] rfl rfl ?_
        exact ⟨rfl, hc24.trans0 q87⟩
      ·
        have h0 : En.thinE l q = 0 := Decidable.not_not.1 (by assumption)
        obtain ⟨m1, m2, m3⟩ := En.never_missed (a := a) h0 (by omega) (by omega) (by omega) hold
        have f1 : En.thinL l q false = En.thin l q false := if_pos h0
        have f2 : En.thinL l q true = En.thin l q true := if_pos h0
        rw [f1] at hv81
        rw [f2] at hv87
        obtain ⟨z1, z2⟩ := En.thin_lens l q
        obtain ⟨d81, p81, rfl⟩ := hv81.shape
        obtain ⟨d87, p87, rfl⟩ := hv87.shape
        have hA := ((ha0.ch0 hch).ch0 hc81).ch0 hc87
        have hO := hb0.ch0 q87
        have hT := hv81.ch0 hc87
        refine TC.skip ?_
        refine Thn.go ?_
        refine TC.seq ?_
        refine TC.region ?_
        refine TL.move rfl rfl ?_
        refine TL.move rfl rfl ?_
        refine TL.buildSlice [.tmp 103, .tmp 104] sl22 rfl rfl rfl (by decide) (by first | simp [Value.cells]; done | simp [Value.cells, cl_len]; done) rfl (fun w105 hb105 hc105 hz105 => ?_)
        refine TL.move rfl rfl ?_
        refine TL.call can17 rfl rfl (fn17 _ [(.slice ad l.length c, l), (.slice bd o.length d, o)] a w105 (Rd.ofFlat (vs := vals [(.slice ad l.length c, l), (.slice bd o.length d, o)]) hb105 (by simp [vals, Value.cells]) rfl (by decide)) (fun p hp => by simp only [List.mem_cons, List.not_mem_nil, or_false] at hp; rcases hp with rfl | rfl; exact hA.ch0 hc105; exact hO.ch0 hc105) (by simp; omega)) (fun v107 w107 hr107 => ?_)
        obtain ⟨o107, rfl, hv107, hc107⟩ := hr107
        have k107 := hc105.trans0 hc107
        refine TL.move rfl rfl ?_
        refine TL.extract rfl rfl rfl ?_
        refine TL.extract rfl rfl rfl ?_
        refine TL.assign rfl rfl ?_
        refine TL.assign rfl rfl ?_
        refine TL.done ?_
        refine Thn.go ?_
        refine TC.seq ?_
        refine TC.region ?_
        refine TL.move rfl rfl ?_
        refine TL.move rfl rfl ?_
        refine TL.buildSlice [.tmp 111, .tmp 112] sl22 rfl rfl rfl (by decide) (by first | simp [Value.cells]; done | simp [Value.cells, cl_len]; done) rfl (fun w113 hb113 hc113 hz113 => ?_)
        refine TL.move rfl rfl ?_
        refine TL.call can17 rfl rfl (fn17 _ [(.slice d81 (En.thin l q false).length p81, En.thin l q false), (.slice bd o.length d, o)] a w113 (Rd.ofFlat (vs := vals [(.slice d81 (En.thin l q false).length p81, En.thin l q false), (.slice bd o.length d, o)]) hb113 (by simp [vals, Value.cells]) rfl (by decide)) (fun p hp => by simp only [List.mem_cons, List.not_mem_nil, or_false] at hp; rcases hp with rfl | rfl; exact (Rd.ofOwn hT).ch0 (k107.trans0 hc113); exact hO.ch0 (k107.trans0 hc113)) (by simp; omega)) (fun v115 w115 hr115 => ?_)
        obtain ⟨o115, rfl, hv115, hc115⟩ := hr115
        have k115 := k107.trans0 (hc113.trans0 hc115)
        refine TL.move rfl rfl ?_
        refine TL.extract rfl rfl rfl ?_
        refine TL.extract rfl rfl rfl ?_
        refine TL.assign rfl rfl ?_
        refine TL.assign rfl rfl ?_
        refine TL.done ?_
        refine Thn.go ?_
        refine TC.seq ?_
        refine TC.region ?_
        refine TL.move rfl rfl ?_
        refine TL.buildSlice [.tmp 119] sl22 rfl rfl rfl (by decide) (by first | simp [Value.cells]; done | simp [Value.cells, cl_len]; done) rfl (fun w120 hb120 hc120 hz120 => ?_)
        refine TL.move rfl rfl ?_
        refine TL.call can17 rfl rfl (fn17 _ [(.slice ad l.length c, l)] a w120 (Rd.ofFlat (vs := vals [(.slice ad l.length c, l)]) hb120 (by simp [vals, Value.cells]) rfl (by decide)) (fun p hp => by rw [List.mem_singleton.1 hp]; exact hA.ch0 (k115.trans0 hc120)) (by simp; omega)) (fun v122 w122 hr122 => ?_)
        obtain ⟨o122, rfl, hv122, hc122⟩ := hr122
        have k122 := k115.trans0 (hc120.trans0 hc122)
        refine TL.move rfl rfl ?_
        refine TL.extract rfl rfl rfl ?_
        refine TL.extract rfl rfl rfl ?_
        refine TL.assign rfl rfl ?_
        refine TL.assign rfl rfl ?_
        refine TL.done ?_
        refine Thn.go ?_
        refine TC.seq ?_
        refine TC.region ?_
        refine TL.move rfl rfl ?_
        refine TL.buildSlice [.tmp 126] sl22 rfl rfl rfl (by decide) (by first | simp [Value.cells]; done | simp [Value.cells, cl_len]; done) rfl (fun w127 hb127 hc127 hz127 => ?_)
        refine TL.move rfl rfl ?_
        refine TL.call can17 rfl rfl (fn17 _ [(.slice d87 (En.thin l q true).length p87, En.thin l q true)] a w127 (Rd.ofFlat (vs := vals [(.slice d87 (En.thin l q true).length p87, En.thin l q true)]) hb127 (by simp [vals, Value.cells]) rfl (by decide)) (fun p hp => by rw [List.mem_singleton.1 hp]; exact (Rd.ofOwn hv87).ch0 (k122.trans0 hc127)) (by simp; omega)) (fun v129 w129 hr129 => ?_)
        obtain ⟨o129, rfl, hv129, hc129⟩ := hr129
        have k129 := k122.trans0 (hc127.trans0 hc129)
        have w107_ := (hc113.trans0 hc115).trans0 ((hc120.trans0 hc122).trans0 (hc127.trans0 hc129))
        have w115_ := (hc120.trans0 hc122).trans0 (hc127.trans0 hc129)
        have w122_ := hc127.trans0 hc129
        refine TL.move rfl rfl ?_
        refine TL.extract rfl rfl rfl ?_
        refine TL.extract rfl rfl rfl ?_
        refine TL.assign rfl rfl ?_
        refine TL.assign rfl rfl ?_
        refine TL.done ?_
        refine Thn.go ?_
        refine TC.seq ?_
        have m1' : En.liveE (List.map (·.2) [(Value.slice d81 (En.thin l q false).length p81, En.thin l q false), (Value.slice bd o.length d, o)]) a = En.liveE [l, o] a := m1.symm
        have m1a : En.liveE (List.map (·.2) [(Value.slice ad l.length c, l), (Value.slice bd o.length d, o)]) a = En.liveE [l, o] a := rfl
        have m2' : En.liveE (List.map (·.2) [(Value.slice d87 (En.thin l q true).length p87, En.thin l q true)]) a = En.liveE [l] a := m2.symm
        have m2a : En.liveE (List.map (·.2) [(Value.slice ad l.length c, l)]) a = En.liveE [l] a := rfl
        rw [m1', m1a, m2', m2a]
        refine TC.regionBool (d := 137) (p := (¬ En.liveE [l, o] a = 0)) (fun K14 hK14 => ?_) ?_
        ·
          refine TL.move rfl rfl ?_
          refine TL.neq rfl rfl rfl ?_
          refine TL.em (fun e133 => ?_) (fun e133 => ?_)
          ·
            refine TL.move rfl rfl ?_
            refine TL.guardNo (d := 134) rfl rfl rfl rfl rfl ?_
            refine TL.guardNo (d := 134) rfl rfl rfl rfl rfl ?_
            refine TL.pickT rfl rfl rfl rfl ?_
            refine TL.done ?_
            refine hK14 _ ?_
            refine Le.here rfl (by first | exact decide_eq_true (by omega) | exact decide_eq_false (by omega) | exact decide_eq_decide.2 (by omega) | exact decide_eq_true (by grind) | exact decide_eq_false (by grind) | exact decide_eq_decide.2 (by grind)) ?_
            repeat (first | exact Le.refl _ | refine Le.skip rfl ?_)
          ·
            refine TL.move rfl rfl ?_
            refine TL.guardYes (d := 134) rfl rfl rfl ?_
            refine TL.move rfl rfl ?_
            refine TL.guardYes (d := 134) rfl rfl rfl ?_
            refine TL.neq rfl rfl rfl ?_
            refine TL.pickF rfl rfl rfl rfl ?_
            refine TL.done ?_
            refine hK14 _ ?_
            refine Le.here rfl (by first | exact decide_eq_true (by omega) | exact decide_eq_false (by omega) | exact decide_eq_decide.2 (by omega) | exact decide_eq_true (by grind) | exact decide_eq_false (by grind) | exact decide_eq_decide.2 (by grind)) ?_
            repeat (first | exact Le.refl _ | refine Le.skip rfl ?_)
        refine TC.condP rfl (fun h16 => ?_) (fun h16 => ?_)
        ·
          refine TC.seq ?_
          refine TC.region ?_
          refine TL.move rfl rfl ?_
          refine TL.move rfl rfl ?_
          refine TL.guardYes (d := 139) rfl rfl rfl ?_
          refine TL.move rfl rfl ?_
          refine TL.guardYes (d := 139) rfl rfl rfl ?_
          refine TL.move rfl rfl ?_
          refine TL.guardYes (d := 139) rfl rfl rfl ?_
          refine TL.eql rfl rfl rfl ?_
          refine TL.yes (rfl) ?_
          refine TL.pickT rfl rfl rfl rfl ?_
          refine TL.move rfl rfl ?_
          refine TL.guardYes (d := 144) rfl rfl rfl ?_
          refine TL.move rfl rfl ?_
          refine TL.guardYes (d := 144) rfl rfl rfl ?_
          refine TL.neq rfl rfl rfl ?_
          refine TL.guardYes (d := 144) rfl rfl rfl ?_
          refine TL.move rfl rfl ?_
          refine TL.guardYes (d := 144) rfl rfl rfl ?_
          refine TL.neq rfl rfl rfl ?_
          refine TL.guardYes (d := 144) rfl rfl rfl ?_
          refine TL.eqlBool Try.underlying4 rfl rfl rfl ?_
          refine TL.yes (rfl) ?_
          refine TL.pickT rfl rfl rfl rfl ?_
          refine TL.assign rfl rfl ?_
          refine TL.done ?_
          refine Thn.go ?_
          refine TC.ret ?_
          refine Thn.ret ?_
          refine Ends.ret [8] rfl rfl ?_
          exact ⟨rfl, hc24.trans0 (q87.trans0 k129)⟩
        ·
          have hz : En.liveE [l, o] a = 0 := Decidable.not_not.1 (by assumption)
          obtain ⟨n1, n2⟩ := m3 hz
          refine TC.skip ?_
          refine Thn.go ?_
          refine TC.seq ?_
          refine TC.region ?_
          refine TL.move rfl rfl ?_
          refine TL.move rfl rfl ?_
          refine TL.guardYes (d := 152) rfl rfl rfl ?_
          refine TL.move rfl rfl ?_
          refine TL.guardYes (d := 152) rfl rfl rfl ?_
          refine TL.move rfl rfl ?_
          refine TL.guardYes (d := 152) rfl rfl rfl ?_
          refine TL.eql rfl rfl rfl ?_
          refine TL.yes (rfl) ?_
          refine TL.pickT rfl rfl rfl rfl ?_
          refine TL.move rfl rfl ?_
          refine TL.guardYes (d := 157) rfl rfl rfl ?_
          refine TL.move rfl rfl ?_
          refine TL.guardYes (d := 157) rfl rfl rfl ?_
          refine TL.move rfl rfl ?_
          refine TL.guardYes (d := 157) rfl rfl rfl ?_
          refine TL.call can13 rfl rfl (fn13 _ _ (En.liveL [l, o] a) (En.liveL [l, o] a) w129 (Rd.ofOwn (hv107.ch0 w107_)) (by rw [n1]; exact Rd.ofOwn (hv115.ch0 w115_))) (fun v160 w160 hr160 => ?_)
          obtain ⟨rfl, hc160⟩ := hr160
          refine TL.yes (rfl) ?_
          refine TL.pickT rfl rfl rfl rfl ?_
          refine TL.move rfl rfl ?_
          refine TL.guardYes (d := 162) rfl rfl rfl ?_
          refine TL.move rfl rfl ?_
          refine TL.guardYes (d := 162) rfl rfl rfl ?_
          refine TL.move rfl rfl ?_
          refine TL.guardYes (d := 162) rfl rfl rfl ?_
          refine TL.call can13 rfl rfl (fn13 _ _ (En.liveL [l] a) (En.liveL [l] a) w160 (Rd.ofOwn ((hv122.ch0 w122_).ch0 hc160)) (by rw [n2]; exact Rd.ofOwn (hv129.ch0 hc160))) (fun v165 w165 hr165 => ?_)
          obtain ⟨rfl, hc165⟩ := hr165
          refine TL.yes (rfl) ?_
          refine TL.pickT rfl rfl rfl rfl ?_
          refine TL.move rfl rfl ?_
          refine TL.guardYes (d := 167) rfl rfl rfl ?_
          refine TL.move rfl rfl ?_
          refine TL.guardYes (d := 167) rfl rfl rfl ?_
          refine TL.lenSlice Try.underlying25 rfl rfl ?_
          refine TL.guardYes (d := 167) rfl rfl rfl ?_
          refine TL.move rfl rfl ?_
          refine TL.guardYes (d := 167) rfl rfl rfl ?_
          refine TL.lenSlice Try.underlying25 rfl rfl ?_
          refine TL.guardYes (d := 167) rfl rfl rfl ?_
          refine TL.leq rfl rfl rfl ?_
          refine TL.yes (by omega) ?_
          refine TL.pickT rfl rfl rfl rfl ?_
          refine TL.move rfl rfl ?_
          refine TL.guardYes (d := 174) rfl rfl rfl ?_
          refine TL.move rfl rfl ?_
          refine TL.guardYes (d := 174) rfl rfl rfl ?_
          refine TL.lenSlice Try.underlying25 rfl rfl ?_
          refine TL.guardYes (d := 174) rfl rfl rfl ?_
          refine TL.move rfl rfl ?_
          refine TL.guardYes (d := 174) rfl rfl rfl ?_
          refine TL.lenSlice Try.underlying25 rfl rfl ?_
          refine TL.guardYes (d := 174) rfl rfl rfl ?_
          refine TL.leq rfl rfl rfl ?_
          refine TL.yes (by omega) ?_
          refine TL.pickT rfl rfl rfl rfl ?_
          refine TL.assign rfl rfl ?_
          refine TL.done ?_
          refine Thn.go ?_
          refine TC.ret ?_
          refine Ends.ret [8] rfl rfl ?_
          exact ⟨rfl, hc24.trans0 (q87.trans0 (k129.trans0 (hc160.trans0 hc165)))⟩

