/-
  Walks through the given program: each theorem fnN says what the call of function N of the translation hands back, for all arguments that its premises describe, and that nothing that was there has turned.
-/
import Derived.Test.YtemfaondlhglbaaT10
import Derived.Test.YtemfaondlhglbaaTm5
namespace Go.Proofs.Ytemfaondlhglbaa
open Go.Lane
theorem can40 : Callable Try.prog 40 := ⟨Try.f40, Try.func40, by kernel_rfl, rfl⟩
theorem can45 : Callable Try.prog 45 := ⟨Try.f45, Try.func45, by kernel_rfl, rfl⟩
theorem sl54 : SliceT Try.prog 54 27 5 56 (.agg #[.int .i64 0, .int .i64 0, .int .i64 0, .string ⟨#[]⟩, .string ⟨#[]⟩]) := SliceT.mk' Try.underlying54 (by kernel_rfl) rfl rfl
theorem sz54 : (Try.prog.info? 54).map (·.size) = some 1 := by kernel_rfl
theorem mtLen : MethT Try.prog 58 "Len" 79 false := by unfold MethT; kernel_rfl
theorem mtLess : MethT Try.prog 58 "Less" 80 false := by unfold MethT; kernel_rfl
theorem mtSwap : MethT Try.prog 58 "Swap" 81 false := by unfold MethT; kernel_rfl
theorem mtPop : MethT Try.prog 58 "Pop" 82 true := by unfold MethT; kernel_rfl
theorem mtPush : MethT Try.prog 58 "Push" 83 true := by unfold MethT; kernel_rfl
theorem pl54 : Plain Try.prog 54 := ⟨_, Try.underlying54, rfl⟩
theorem can79 : Callable Try.prog 79 := ⟨Try.f79, Try.func79, by kernel_rfl, rfl⟩
theorem can80 : Callable Try.prog 80 := ⟨Try.f80, Try.func80, by kernel_rfl, rfl⟩
theorem can81 : Callable Try.prog 81 := ⟨Try.f81, Try.func81, by kernel_rfl, rfl⟩
theorem can82 : Callable Try.prog 82 := ⟨Try.f82, Try.func82, by kernel_rfl, rfl⟩
theorem can83 : Callable Try.prog 83 := ⟨Try.f83, Try.func83, by kernel_rfl, rfl⟩
theorem g_rec (l : List Tm.Timer) (i : Nat) : Hp.g l i = Tm.rec l i := rfl

theorem fn79 (v : Value) (l : List Tm.Timer) (w : World) (ha : Rd w v 5 l.length (l.flatMap cl)) : Rets Try.prog 79 #[v] w (fun r w' => r = .int .i64 (l.length : Int) ∧ w' = w) := by
  obtain ⟨ad, c, rfl, _⟩ := ha.shape
  refine Rets.of (n := 5) (vs := [_]) Try.func79 rfl rfl rfl ?_
  refine TC.seq ?_
  refine TC.region ?_
  refine TL.assign rfl rfl ?_
  refine TL.done ?_
  refine Thn.go ?_
  refine TC.seq ?_
  refine TC.region ?_
  refine TL.move rfl rfl ?_
  refine TL.lenSlice Try.underlying54 rfl rfl ?_
  refine TL.assign rfl rfl ?_
  refine TL.done ?_
  refine Thn.go ?_
  refine TC.ret ?_
  refine Ends.ret [2] rfl rfl ?_
  exact ⟨rfl, rfl⟩

theorem fn80 (v : Value) (l : List Tm.Timer) (i j : Nat) (hi : i < l.length) (hj : j < l.length) (w : World) (ha : Rd w v 5 l.length (l.flatMap cl)) : Rets Try.prog 80 #[v, .int .i64 (i : Int), .int .i64 (j : Int)] w (fun r w' => r = .bool (decide (Tm.ahead (Tm.rec l i) (Tm.rec l j))) ∧ Ch [] w w') := by
  obtain ⟨ad, c, rfl, _⟩ := ha.shape
  obtain ⟨b, o, rfl, _⟩ := recAt ha hi
  have hce : ∀ k, k < l.length → ∀ w2, Ch [] w w2 → ∀ j, j < 5 → w2.cell? ⟨b, o + k * 5 + j, none⟩ = (cl (Tm.rec l k))[j]? := fun k hk w2 h2 => by obtain ⟨b', o', e, hh⟩ := recAt (i := k) (ha.ch0 h2) hk; cases e; exact hh
  refine Rets.of (n := 16) (vs := [_, _, _]) Try.func80 rfl rfl rfl ?_
  refine TC.seq ?_
  refine TC.region ?_
  refine TL.assign rfl rfl ?_
  refine TL.done ?_
  refine Thn.go ?_
  refine TC.seq ?_
  refine TC.regionQ (fun w6 => Ch [] w w6) mixed0 (by kernel_rfl) (Ch.drew [] _) ?_
  refine TQ.via rfl rfl rfl rfl (fun w2 hw2 => TL.move rfl rfl (TL.done ⟨rfl, rfl⟩)) ?_
  refine TQ.via rfl rfl rfl rfl (fun w2 hw2 => TL.move rfl rfl (TL.done ⟨rfl, rfl⟩)) ?_
  refine TQ.via rfl rfl rfl rfl (fun w2 hw2 => TL.indexAddr (i) sl54 rfl rfl (by first | rfl | omega) (by omega) rfl (TL.done ⟨rfl, rfl⟩)) ?_
  refine TQ.via rfl rfl rfl rfl (fun w2 hw2 => TL.loadAgg (cl (Tm.rec l i)) ag27 rfl rfl (fun j hj => hce i hi _ hw2 j hj) rfl (TL.done ⟨rfl, rfl⟩)) ?_
  refine TQ.via rfl rfl rfl rfl (fun w2 hw2 => TL.move rfl rfl (TL.done ⟨rfl, rfl⟩)) ?_
  refine TQ.via rfl rfl rfl rfl (fun w2 hw2 => TL.move rfl rfl (TL.done ⟨rfl, rfl⟩)) ?_
  refine TQ.via rfl rfl rfl rfl (fun w2 hw2 => TL.indexAddr (j) sl54 rfl rfl (by first | rfl | omega) (by omega) rfl (TL.done ⟨rfl, rfl⟩)) ?_
  refine TQ.via rfl rfl rfl rfl (fun w2 hw2 => TL.loadAgg (cl (Tm.rec l j)) ag27 rfl rfl (fun q hq => hce j hj _ hw2 q hq) rfl (TL.done ⟨rfl, rfl⟩)) ?_
  refine TQ.call (.bool (decide (Tm.ahead (Tm.rec l i) (Tm.rec l j)))) can34 rfl rfl (fun w2 hw2 => (fn34 _ _ w2).mono (fun _ _ ⟨q1, q2⟩ => ⟨q1, hw2.trans0 q2⟩)) ?_
  refine TQ.via rfl rfl rfl rfl (fun w2 hw2 => TL.assign rfl rfl (TL.done ⟨rfl, rfl⟩)) ?_
  refine TQ.done (fun w2 hw2 => ?_)
  refine Thn.go ?_
  refine TC.ret ?_
  refine Ends.ret [6] rfl rfl ?_
  exact ⟨rfl, hw2⟩

theorem fn81 (base : Nat) (v : Value) (l : List Tm.Timer) (m i j : Nat) (hm : l.length = m) (hi : i < l.length) (hj : j < l.length) (w : World) (ha : Own w base 27 5 v m (l.flatMap cl)) : Rets Try.prog 81 #[v, .int .i64 (i : Int), .int .i64 (j : Int)] w (fun _ w' => Own w' base 27 5 v m ((Hp.sw l i j).flatMap cl) ∧ Ch (blk v) w w') := by
  subst hm
  obtain ⟨g, c, rfl⟩ := ha.form (by omega)
  obtain ⟨cur, hcur, hcsz, hcn, _, hgb, _⟩ := ha.has
  have hce : ∀ k, k < l.length → ∀ w2, Ch [] w w2 → ∀ j, j < 5 → w2.cell? ⟨g, 0 + k * 5 + j, none⟩ = (cl (Tm.rec l k))[j]? := fun k hk w2 h2 => by obtain ⟨b', o', e, hh⟩ := recAt (i := k) ((Rd.ofOwn ha).ch0 h2) hk; cases e; exact hh
  refine Rets.of (n := 20) (vs := [_, _, _]) Try.func81 rfl rfl rfl ?_
  refine TC.regionH (fun w2 => Ch [g] w w2) mixed0 ?_
  have hS : (fun w2 => Ch [g] w w2) _ := Ch.drew [g] _
  refine TH.take (i := 0) rfl rfl rfl rfl rfl (by kernel_rfl) (by kernel_rfl) (by kernel_rfl) hS (fun w2 hw2 => TL.move rfl rfl (TL.done ⟨rfl, rfl⟩)) ?_
  refine TH.take (i := 1) rfl rfl rfl rfl rfl (by kernel_rfl) (by kernel_rfl) (by kernel_rfl) hS (fun w2 hw2 => TL.move rfl rfl (TL.done ⟨rfl, rfl⟩)) ?_
  refine TH.take (i := 2) rfl rfl rfl rfl rfl (by kernel_rfl) (by kernel_rfl) (by kernel_rfl) hS (fun w2 hw2 => TL.move rfl rfl (TL.done ⟨rfl, rfl⟩)) ?_
  refine TH.take (i := 3) rfl rfl rfl rfl rfl (by kernel_rfl) (by kernel_rfl) (by kernel_rfl) hS (fun w2 hw2 => TL.move rfl rfl (TL.done ⟨rfl, rfl⟩)) ?_
  refine TH.take (i := 4) rfl rfl rfl rfl rfl (by kernel_rfl) (by kernel_rfl) (by kernel_rfl) hS (fun w2 hw2 => TL.move rfl rfl (TL.done ⟨rfl, rfl⟩)) ?_
  refine TH.take (i := 5) rfl rfl rfl rfl rfl (by kernel_rfl) (by kernel_rfl) (by kernel_rfl) hS (fun w2 hw2 => TL.move rfl rfl (TL.done ⟨rfl, rfl⟩)) ?_
  refine TH.take (i := 6) rfl rfl rfl rfl rfl (by kernel_rfl) (by kernel_rfl) (by kernel_rfl) hS (fun w2 hw2 => TL.indexAddr (j) sl54 rfl rfl (by first | rfl | omega) (by omega) rfl (TL.done ⟨rfl, rfl⟩)) ?_
  refine TH.take (i := 8) rfl rfl rfl rfl rfl (by kernel_rfl) (by kernel_rfl) (by kernel_rfl) hS (fun w2 hw2 => TL.move rfl rfl (TL.done ⟨rfl, rfl⟩)) ?_
  refine TH.take (i := 9) rfl rfl rfl rfl rfl (by kernel_rfl) (by kernel_rfl) (by kernel_rfl) hS (fun w2 hw2 => TL.move rfl rfl (TL.done ⟨rfl, rfl⟩)) ?_
  refine TH.take (i := 10) rfl rfl rfl rfl rfl (by kernel_rfl) (by kernel_rfl) (by kernel_rfl) hS (fun w2 hw2 => TL.indexAddr (i) sl54 rfl rfl (by first | rfl | omega) (by omega) rfl (TL.done ⟨rfl, rfl⟩)) ?_
  refine TH.two (i := 7) (j := 11) (by kernel_rfl) rfl rfl rfl rfl ?_ ?_
  ·
    refine TL.loadAgg (cl (Tm.rec l j)) ag27 rfl rfl (fun q hq => hce j hj _ (Ch.drew [] _) q hq) rfl ?_
    have hS : (fun w2 => Ch [g] w w2) _ := hS
    refine TL.done ⟨hS, ?_⟩
    refine TH.one (i := 11) (by kernel_rfl) rfl rfl ?_
    refine TL.loadAgg (cl (Tm.rec l i)) ag27 rfl rfl (fun q hq => hce i hi _ (Ch.drew [] _) q hq) rfl ?_
    have hS : (fun w2 => Ch [g] w w2) _ := hS
    refine TL.done ⟨hS, ?_⟩
    refine TH.take (i := 12) rfl rfl rfl rfl rfl (by kernel_rfl) (by kernel_rfl) (by kernel_rfl) hS (fun w2 hw2 => TL.indexAddr (i) sl54 rfl rfl (by first | rfl | omega) (by omega) rfl (TL.done ⟨rfl, rfl⟩)) ?_
    refine TH.one (i := 13) (by kernel_rfl) rfl rfl ?_
    refine TL.store sz27 rfl rfl rfl (hcur.ch0 (Ch.drew [] _)) (by omega) (by simpa [Value.cells] using cl_one (Tm.rec l j)) (.inl rfl) (fun ws1 hbs1 hcs1 hzs1 => ?_)
    have own1 := (ha.ch0 (Ch.drew [] _)).setRec cl_len (hcur.ch0 (Ch.drew [] _)) (k := i) (x := Tm.rec l j) hi hbs1
    have hl1 : (l.set i (Tm.rec l j)).length = l.length := List.length_set
    have hS : (fun w2 => Ch [g] w w2) _ := Ch.trans hS hcs1 (fun x h _ => h) (fun x h _ => h)
    refine TL.done ⟨hS, ?_⟩
    refine TH.take (i := 14) rfl rfl rfl rfl rfl (by kernel_rfl) (by kernel_rfl) (by kernel_rfl) hS (fun w2 hw2 => TL.indexAddr (j) sl54 rfl rfl (by first | rfl | omega) (by omega) rfl (TL.done ⟨rfl, rfl⟩)) ?_
    refine TH.one (i := 15) (by kernel_rfl) rfl rfl ?_
    refine TL.store sz27 rfl rfl rfl hbs1 (by rw [size_spl (by rw [cells_agg, List.toList_toArray, cl_len]; omega)]; omega) (by simpa [Value.cells] using cl_one (Tm.rec l i)) (.inl rfl) (fun ws2 hbs2 hcs2 hzs2 => ?_)
    rw [← hl1] at own1
    have own2 := own1.setRec cl_len hbs1 (k := j) (x := Tm.rec l i) (by omega) hbs2
    rw [hl1] at own2
    have hS : (fun w2 => Ch [g] w w2) _ := Ch.trans hS hcs2 (fun x h _ => h) (fun x h _ => h)
    refine TL.done ⟨hS, ?_⟩
    refine TH.done (by kernel_rfl) ?_
    refine Ends.normal [] rfl rfl ?_
    exact ⟨own2, Ch.weaken hS (fun x h => by simpa [blk, Value.ownBlock] using h)⟩
  ·
    refine TL.loadAgg (cl (Tm.rec l i)) ag27 rfl rfl (fun q hq => hce i hi _ (Ch.drew [] _) q hq) rfl ?_
    have hS : (fun w2 => Ch [g] w w2) _ := hS
    refine TL.done ⟨hS, ?_⟩
    refine TH.one (i := 7) (by kernel_rfl) rfl rfl ?_
    refine TL.loadAgg (cl (Tm.rec l j)) ag27 rfl rfl (fun q hq => hce j hj _ (Ch.drew [] _) q hq) rfl ?_
    have hS : (fun w2 => Ch [g] w w2) _ := hS
    refine TL.done ⟨hS, ?_⟩
    refine TH.take (i := 12) rfl rfl rfl rfl rfl (by kernel_rfl) (by kernel_rfl) (by kernel_rfl) hS (fun w2 hw2 => TL.indexAddr (i) sl54 rfl rfl (by first | rfl | omega) (by omega) rfl (TL.done ⟨rfl, rfl⟩)) ?_
    refine TH.one (i := 13) (by kernel_rfl) rfl rfl ?_
    refine TL.store sz27 rfl rfl rfl (hcur.ch0 (Ch.drew [] _)) (by omega) (by simpa [Value.cells] using cl_one (Tm.rec l j)) (.inl rfl) (fun ws1 hbs1 hcs1 hzs1 => ?_)
    have own1 := (ha.ch0 (Ch.drew [] _)).setRec cl_len (hcur.ch0 (Ch.drew [] _)) (k := i) (x := Tm.rec l j) hi hbs1
    have hl1 : (l.set i (Tm.rec l j)).length = l.length := List.length_set
    have hS : (fun w2 => Ch [g] w w2) _ := Ch.trans hS hcs1 (fun x h _ => h) (fun x h _ => h)
    refine TL.done ⟨hS, ?_⟩
    refine TH.take (i := 14) rfl rfl rfl rfl rfl (by kernel_rfl) (by kernel_rfl) (by kernel_rfl) hS (fun w2 hw2 => TL.indexAddr (j) sl54 rfl rfl (by first | rfl | omega) (by omega) rfl (TL.done ⟨rfl, rfl⟩)) ?_
    refine TH.one (i := 15) (by kernel_rfl) rfl rfl ?_
    refine TL.store sz27 rfl rfl rfl hbs1 (by rw [size_spl (by rw [cells_agg, List.toList_toArray, cl_len]; omega)]; omega) (by simpa [Value.cells] using cl_one (Tm.rec l i)) (.inl rfl) (fun ws2 hbs2 hcs2 hzs2 => ?_)
    rw [← hl1] at own1
    have own2 := own1.setRec cl_len hbs1 (k := j) (x := Tm.rec l i) (by omega) hbs2
    rw [hl1] at own2
    have hS : (fun w2 => Ch [g] w w2) _ := Ch.trans hS hcs2 (fun x h _ => h) (fun x h _ => h)
    refine TL.done ⟨hS, ?_⟩
    refine TH.done (by kernel_rfl) ?_
    refine Ends.normal [] rfl rfl ?_
    exact ⟨own2, Ch.weaken hS (fun x h => by simpa [blk, Value.ownBlock] using h)⟩

theorem fn83 (H : Nat) (v : Value) (l : List Tm.Timer) (t : Tm.Timer) (hl : l.length ≤ 100000) (w : World) (hH : Has w H #[v, .bool true] 56 (0, 0)) (ho : Own w (H + 1) 27 5 v l.length (l.flatMap cl)) : Rets Try.prog 83 #[.pointer (some ⟨H, 0, none⟩), .iface 27 (.agg (cl t).toArray)] w (fun _ w' => ∃ v', Has w' H #[v', .bool true] 56 (0, 0) ∧ Own w' (H + 1) 27 5 v' (l ++ [t]).length ((l ++ [t]).flatMap cl) ∧ (∀ b, v'.ownBlock = some b → v.ownBlock = some b ∨ w.heap.size ≤ b) ∧ Ch (H :: blk v) w w') := by
  have hmm : maxLen = 9223372036854775807 := rfl
  have hHl := hH.lt
  have hnb : H ∉ blk v := ho.notin (by omega)
  refine Rets.of (n := 13) (vs := [_, _]) Try.func83 rfl rfl rfl ?_
  refine TC.regionH (fun w2 => Ch (H :: blk v) w w2) mixed0 ?_
  have hS : (fun w2 => Ch (H :: blk v) w w2) _ := Ch.drew _ _
  refine TH.take (i := 0) rfl rfl rfl rfl rfl (by kernel_rfl) (by kernel_rfl) (by kernel_rfl) hS (fun w2 hw2 => TL.move rfl rfl (TL.done ⟨rfl, rfl⟩)) ?_
  refine TH.take (i := 1) rfl rfl rfl rfl rfl (by kernel_rfl) (by kernel_rfl) (by kernel_rfl) hS (fun w2 hw2 => TL.move rfl rfl (TL.done ⟨rfl, rfl⟩)) ?_
  refine TH.takeNil (i := 2) rfl rfl rfl (by kernel_rfl) (by kernel_rfl) (by kernel_rfl) hS ?_
  refine TH.take (i := 4) rfl rfl rfl rfl rfl (by kernel_rfl) (by kernel_rfl) (by kernel_rfl) hS (fun w2 hw2 => TL.move rfl rfl (TL.done ⟨rfl, rfl⟩)) ?_
  refine TH.takeA (i := 5) rfl Try.underlying27 rfl rfl rfl (by kernel_rfl) (by kernel_rfl) (by kernel_rfl) hS ?_
  refine TH.two (i := 3) (j := 6) (by kernel_rfl) rfl rfl rfl rfl ?_ ?_
  ·
    have q7 : Ch [] w w.drew := Ch.drew [] w
    refine TL.load pl54 rfl ((hH.ch0 q7).cell 0) rfl ?_
    have hS : (fun w2 => Ch (H :: blk v) w w2) _ := hS
    refine TL.done ⟨hS, ?_⟩
    refine TH.one (i := 6) (by kernel_rfl) rfl rfl ?_
    refine TL.buildSlice [.tmp 9] sl54 rfl rfl rfl (by decide) (by first | simp [Value.cells]; done | simp [Value.cells, cl_len]; done) rfl (fun w10 hb10 hc10 hz10 => ?_)
    have hS : (fun w2 => Ch (H :: blk v) w w2) _ := Ch.trans hS hc10 (fun x h _ => h) (fun x h _ => by simp at h)
    refine TL.done ⟨hS, ?_⟩
    refine TH.one (i := 7) (by kernel_rfl) rfl rfl ?_
    refine TL.appendD sl54 rfl rfl rfl ((ho.ch0 (Ch.drew [] _)).ch0 hc10) (News.ofRd Try.underlying54 (recOne hb10) (rows_one _)) (by omega) (by omega) (by have := hc10.size; have : w.drew.heap.size = w.heap.size := rfl; omega) (fun v11 w11 hv11 hc11 hn11 => ?_)
    obtain ⟨a11, c11, rfl⟩ := hv11.shape
    have hH11 := ((hH.ch0 (Ch.drew [] _)).ch0 hc10).ch hc11 hnb
    have hS : (fun w2 => Ch (H :: blk v) w w2) _ := Ch.trans hS hc11 (fun x h _ => h) (fun x h _ => List.mem_cons_of_mem _ h)
    refine TL.done ⟨hS, ?_⟩
    refine TH.takeNil (i := 8) rfl rfl rfl (by kernel_rfl) (by kernel_rfl) (by kernel_rfl) hS ?_
    refine TH.one (i := 9) (by kernel_rfl) rfl rfl ?_
    refine TL.store sz54 rfl rfl rfl hH11 (by simp) (by simp [Value.cells, Value.oneCell']) (.inl rfl) (fun ws1 hbs1 hcs1 hzs1 => ?_)
    replace hbs1 : Has ws1 H #[.slice a11 (l.length + 1) c11, .bool true] 56 (0, 0) := hbs1
    have hnb2 : ∀ k, (Value.slice a11 (l.length + 1) c11).ownBlock = some k → k ∉ [H] := fun k hk h => by simp at h; subst h; exact absurd (hv11.ge _ hk) (by omega)
    have z10 : w.heap.size ≤ w10.heap.size := hc10.size
    have hS : (fun w2 => Ch (H :: blk v) w w2) _ := Ch.trans hS hcs1 (fun x h _ => h) (fun x h _ => by simp at h; simp [h])
    refine TL.done ⟨hS, ?_⟩
    refine TH.done (by kernel_rfl) ?_
    refine Ends.normal [] rfl rfl ?_
    exact ⟨_, hbs1, by rw [List.length_append, List.flatMap_append]; exact hv11.ch hcs1 hnb2, fun b hb => by rcases hn11 b hb with h | h; exact .inl h; exact .inr (by omega), hS⟩
  ·
    refine TL.buildSlice [.tmp 9] sl54 rfl rfl rfl (by decide) (by first | simp [Value.cells]; done | simp [Value.cells, cl_len]; done) rfl (fun w10 hb10 hc10 hz10 => ?_)
    have hS : (fun w2 => Ch (H :: blk v) w w2) _ := Ch.trans hS hc10 (fun x h _ => h) (fun x h _ => by simp at h)
    refine TL.done ⟨hS, ?_⟩
    refine TH.one (i := 3) (by kernel_rfl) rfl rfl ?_
    have q7 : Ch [] w w10 := (Ch.drew [] w).trans0 hc10
    refine TL.load pl54 rfl ((hH.ch0 q7).cell 0) rfl ?_
    have hS : (fun w2 => Ch (H :: blk v) w w2) _ := hS
    refine TL.done ⟨hS, ?_⟩
    refine TH.one (i := 7) (by kernel_rfl) rfl rfl ?_
    refine TL.appendD sl54 rfl rfl rfl ((ho.ch0 (Ch.drew [] _)).ch0 hc10) (News.ofRd Try.underlying54 (recOne hb10) (rows_one _)) (by omega) (by omega) (by have := hc10.size; have : w.drew.heap.size = w.heap.size := rfl; omega) (fun v11 w11 hv11 hc11 hn11 => ?_)
    obtain ⟨a11, c11, rfl⟩ := hv11.shape
    have hH11 := ((hH.ch0 (Ch.drew [] _)).ch0 hc10).ch hc11 hnb
    have hS : (fun w2 => Ch (H :: blk v) w w2) _ := Ch.trans hS hc11 (fun x h _ => h) (fun x h _ => List.mem_cons_of_mem _ h)
    refine TL.done ⟨hS, ?_⟩
    refine TH.takeNil (i := 8) rfl rfl rfl (by kernel_rfl) (by kernel_rfl) (by kernel_rfl) hS ?_
    refine TH.one (i := 9) (by kernel_rfl) rfl rfl ?_
    refine TL.store sz54 rfl rfl rfl hH11 (by simp) (by simp [Value.cells, Value.oneCell']) (.inl rfl) (fun ws1 hbs1 hcs1 hzs1 => ?_)
    replace hbs1 : Has ws1 H #[.slice a11 (l.length + 1) c11, .bool true] 56 (0, 0) := hbs1
    have hnb2 : ∀ k, (Value.slice a11 (l.length + 1) c11).ownBlock = some k → k ∉ [H] := fun k hk h => by simp at h; subst h; exact absurd (hv11.ge _ hk) (by omega)
    have z10 : w.heap.size ≤ w10.heap.size := hc10.size
    have hS : (fun w2 => Ch (H :: blk v) w w2) _ := Ch.trans hS hcs1 (fun x h _ => h) (fun x h _ => by simp at h; simp [h])
    refine TL.done ⟨hS, ?_⟩
    refine TH.done (by kernel_rfl) ?_
    refine Ends.normal [] rfl rfl ?_
    exact ⟨_, hbs1, by rw [List.length_append, List.flatMap_append]; exact hv11.ch hcs1 hnb2, fun b hb => by rcases hn11 b hb with h | h; exact .inl h; exact .inr (by omega), hS⟩

theorem fn82 (H : Nat) (v : Value) (l : List Tm.Timer) (m : Nat) (hm : l.length = m) (hn : 0 < l.length) (w : World) (hH : Has w H #[v, .bool true] 56 (0, 0)) (ho : Own w (H + 1) 27 5 v m (l.flatMap cl)) : Rets Try.prog 82 #[.pointer (some ⟨H, 0, none⟩)] w (fun r w' => r = .iface 27 (.agg (cl (Tm.rec l (m - 1))).toArray) ∧ ∃ v', Has w' H #[v', .bool true] 56 (0, 0) ∧ Own w' (H + 1) 27 5 v' (l.take (m - 1)).length ((l.take (m - 1)).flatMap cl) ∧ v'.ownBlock = v.ownBlock ∧ Ch [H] w w') := by
  subst hm
  obtain ⟨g, c, rfl⟩ := ho.form (by omega)
  have hmx := (Rd.ofOwn ho).nlt
  have hmm : maxLen = 9223372036854775807 := rfl
  have hcap := (Rd.ofOwn ho).cap
  have hgH := ho.ge g rfl
  have hlt : (l.take (l.length - 1)).length = l.length - 1 := by rw [List.length_take]; omega
  refine Rets.of (n := 23) (vs := [_]) Try.func82 rfl rfl rfl ?_
  refine TC.seq ?_
  refine TC.region ?_
  refine TL.assign rfl rfl ?_
  refine TL.done ?_
  refine Thn.go ?_
  refine TC.seq ?_
  refine TC.region ?_
  refine TL.move rfl rfl ?_
  refine TL.nilCheck rfl rfl ?_
  refine TL.load pl54 rfl (hH.cell 0) rfl ?_
  refine TL.assign rfl rfl ?_
  refine TL.done ?_
  refine Thn.go ?_
  refine TC.seq ?_
  refine TC.region ?_
  refine TL.move rfl rfl ?_
  refine TL.move rfl rfl ?_
  refine TL.lenSlice Try.underlying54 rfl rfl ?_
  refine TL.sub_i64 rfl rfl (by omega) (by omega) rfl ?_
  refine TL.indexAddr (l.length - 1) sl54 rfl rfl (by first | rfl | omega) (by omega) rfl ?_
  refine TL.loadAgg (cl (Tm.rec l (l.length - 1))) ag27 rfl rfl (fun q hq => by obtain ⟨b', o', e, hh⟩ := recAt (i := l.length - 1) (Rd.ofOwn ho) (by omega); cases e; exact hh q hq) rfl ?_
  refine TL.alloc ze27 rfl (fun w4 hb4 hc4 hz4 => ?_)
  refine TL.store sz27 rfl rfl rfl hb4 (by simp [Value.cells]) (by simpa [Value.cells] using cl_one (Tm.rec l (l.length - 1))) (.inl rfl) (fun ws1 hbs1 hcs1 hzs1 => ?_)
  replace hbs1 : Has ws1 w.heap.size (cl (Tm.rec l (l.length - 1))).toArray 27 (0, 0) := hbs1.setAll rfl
  have q1 : Ch [] w ws1 := hc4.then1 hcs1 (Nat.le_refl _)
  refine TL.done ?_
  refine Thn.go ?_
  refine TC.seq ?_
  refine TC.region ?_
  refine TL.move rfl rfl ?_
  refine TL.move rfl rfl ?_
  refine TL.move rfl rfl ?_
  refine TL.lenSlice Try.underlying54 rfl rfl ?_
  refine TL.sub_i64 rfl rfl (by omega) (by omega) rfl ?_
  refine TL.sliceTo (l.length - 1) sl54 rfl rfl (by first | rfl | omega) (by omega) rfl ?_
  refine TL.nilCheck rfl rfl ?_
  refine TL.store sz54 rfl rfl rfl (hH.ch0 q1) (by simp) (by simp [Value.cells, Value.oneCell']) (.inl rfl) (fun ws2 hbs2 hcs2 hzs2 => ?_)
  replace hbs2 : Has ws2 H #[.slice (some ⟨g, 0, none⟩) (l.length - 1) c, .bool true] 56 (0, 0) := hbs2
  have hHl := hH.lt
  refine TL.done ?_
  refine Thn.go ?_
  refine TC.seq ?_
  refine TC.region ?_
  refine TL.loadAgg (cl (Tm.rec l (l.length - 1))) ag27 rfl rfl (fun q _ => by rw [(hbs1.ch hcs2 (by simp; omega)).cell, Nat.zero_add, List.getElem?_toArray]) rfl ?_
  refine TL.mkIface Try.underlying27 rfl rfl rfl ?_
  refine TL.assign rfl rfl ?_
  refine TL.done ?_
  refine Thn.go ?_
  refine TC.ret ?_
  refine Ends.ret [2] rfl rfl ?_
  exact ⟨rfl, _, hbs2, by rw [hlt, ← rows_take cl_len]; exact ((ho.ch0 q1).ch hcs2 (fun k hk => by simp [Value.ownBlock] at hk; simp; omega)).to (by omega), rfl, q1.trans hcs2 (by simp) (fun x h _ => h)⟩

theorem fn40 (H : Nat) (v : Value) (l : List Tm.Timer) (m i0 n : Nat) (hm : l.length = m) (hl : m ≤ 100000) (hi0 : i0 ≤ n) (hn : n ≤ m) (w : World) (hH : Has w H #[v, .bool true] 56 (0, 0)) (ho : Own w (H + 1) 27 5 v m (l.flatMap cl)) (hd : Hp.Down Tm.ahead l n i0 i0) : Rets Try.prog 40 #[.iface 58 (.pointer (some ⟨H, 0, none⟩)), .int .i64 (i0 : Int), .int .i64 (n : Int)] w (fun r w' => ∃ L : List Tm.Timer, L.length = m ∧ L.Perm l ∧ (∀ k, n ≤ k → Tm.rec L k = Tm.rec l k) ∧ Hp.Heap Tm.ahead L n i0 ∧ Own w' (H + 1) 27 5 v m (L.flatMap cl) ∧ Ch (blk v) w w') := by
  have hnb : H ∉ blk v := ho.notin (by omega)
  refine Rets.of (n := 48) (vs := [_, _, _]) Try.func40 rfl rfl rfl ?_
  refine TC.seq ?_
  refine TC.region ?_
  refine TL.assign rfl rfl ?_
  refine TL.done ?_
  refine Thn.go ?_
  refine TC.seq ?_
  refine TC.region ?_
  refine TL.move rfl rfl ?_
  refine TL.assign rfl rfl ?_
  refine TL.done ?_
  refine Thn.go ?_
  refine TC.seq ?_
  refine TC.block ?_
  refine TC.loop1 (fun (i : Nat) => [(0, .iface 58 (.pointer (some ⟨H, 0, none⟩))), (1, .int .i64 (i0 : Int)), (2, .int .i64 (n : Int)), (7, .int .i64 (i : Int))]) (fun i w' => i0 ≤ i ∧ i ≤ n ∧ (∃ L : List Tm.Timer, L.length = m ∧ L.Perm l ∧ (∀ k, n ≤ k → Tm.rec L k = Tm.rec l k) ∧ Hp.Down Tm.ahead L n i0 i ∧ Own w' (H + 1) 27 5 v m (L.flatMap cl)) ∧ Ch (blk v) w w') (fun i => n - i) i0 (by repeat (first | exact trivial | refine ⟨rfl, ?_⟩)) (⟨Nat.le_refl _, hi0, ⟨l, hm, List.Perm.refl _, fun _ _ => rfl, hd, ho⟩, Ch.refl _ _⟩) (fun i w' hHH => ?_)
  obtain ⟨hi1, hi2, ⟨L, hL, hp, hk, hd, ho⟩, hch⟩ := hHH
  refine TC.block ?_
  refine TC.seq ?_
  refine TC.region ?_
  refine TL.move rfl rfl ?_
  refine TL.mul_i64 rfl rfl (by omega) (by omega) rfl ?_
  refine TL.add_i64 rfl rfl (by omega) (by omega) rfl ?_
  refine TL.assign rfl rfl ?_
  refine TL.done ?_
  refine Thn.go ?_
  refine TC.seq ?_
  refine TC.regionBool (d := 21) (p := (n ≤ 2 * i + 1)) (fun K1 hK1 => ?_) ?_
  ·
    refine TL.move rfl rfl ?_
    refine TL.move rfl rfl ?_
    refine TL.geq rfl rfl rfl ?_
    refine TL.em (fun e17 => ?_) (fun e17 => ?_)
    ·
      refine TL.move rfl rfl ?_
      refine TL.guardNo (d := 18) rfl rfl rfl rfl rfl ?_
      refine TL.guardNo (d := 18) rfl rfl rfl rfl rfl ?_
      refine TL.pickT rfl rfl rfl rfl ?_
      refine TL.done ?_
      refine hK1 _ ?_
      refine Le.here rfl (by first | exact decide_eq_true (by omega) | exact decide_eq_false (by omega) | exact decide_eq_decide.2 (by omega) | exact decide_eq_true (by grind) | exact decide_eq_false (by grind) | exact decide_eq_decide.2 (by grind)) ?_
      repeat (first | exact Le.refl _ | refine Le.skip rfl ?_)
    ·
      refine TL.move rfl rfl ?_
      refine TL.guardYes (d := 18) rfl rfl rfl ?_
      refine TL.move rfl rfl ?_
      refine TL.guardYes (d := 18) rfl rfl rfl ?_
      refine TL.lss rfl rfl rfl ?_
      refine TL.pickF rfl rfl rfl rfl ?_
      refine TL.done ?_
      refine hK1 _ ?_
      refine Le.here rfl (by first | exact decide_eq_true (by omega) | exact decide_eq_false (by omega) | exact decide_eq_decide.2 (by omega) | exact decide_eq_true (by grind) | exact decide_eq_false (by grind) | exact decide_eq_decide.2 (by grind)) ?_
      repeat (first | exact Le.refl _ | refine Le.skip rfl ?_)
  refine TC.condP rfl (fun h3 => ?_) (fun h3 => ?_)
  ·
    refine TC.exit ?_
    refine Thn.exit ?_
    refine Blk.miss rfl ?_
    refine Lp.exit ?_
    refine Blk.hit ?_
    refine Thn.go ?_
    refine TC.seq ?_
    refine TC.region ?_
    refine TL.move rfl rfl ?_
    refine TL.move rfl rfl ?_
    refine TL.gtr rfl rfl rfl ?_
    refine TL.assign rfl rfl ?_
    refine TL.done ?_
    refine Thn.go ?_
    refine TC.ret ?_
    refine Ends.ret [6] rfl rfl ?_
    exact ⟨L, hL, hp, hk, hd.leaf (by omega), ho, hch⟩
  ·
    have hin : 2 * i + 1 < n := by omega
    have hr := Rd.ofOwn ho
    rw [← hL] at hr
    have hHw := hH.ch hch hnb
    refine TC.skip ?_
    refine Thn.go ?_
    refine TC.seq ?_
    refine TC.region ?_
    refine TL.move rfl rfl ?_
    refine TL.assign rfl rfl ?_
    refine TL.done ?_
    refine Thn.go ?_
    refine TC.cut1 (fun (j : Nat) => [(0, .iface 58 (.pointer (some ⟨H, 0, none⟩))), (1, .int .i64 (i0 : Int)), (2, .int .i64 (n : Int)), (7, .int .i64 (i : Int)), (9, .int .i64 (j : Int))]) (fun j w3 => Hp.Child Tm.ahead L n i j ∧ j < n ∧ Ch [] w' w3) (fun K4 hK4 => ?_) (fun j w3 hM => ?_)
    ·
      refine TC.seq ?_
      refine TC.region ?_
      refine TL.move rfl rfl ?_
      refine TL.add_i64 rfl rfl (by omega) (by omega) rfl ?_
      refine TL.assign rfl rfl ?_
      refine TL.done ?_
      refine Thn.go ?_
      refine TC.cut0 ([(0, .iface 58 (.pointer (some ⟨H, 0, none⟩))), (1, .int .i64 (i0 : Int)), (2, .int .i64 (n : Int)), (7, .int .i64 (i : Int)), (9, .int .i64 (2 * (i : Int) + 1)), (10, .int .i64 (2 * (i : Int) + 1 + 1)), (33, .bool (decide (2 * i + 2 < n ∧ Tm.ahead (Tm.rec L (2 * i + 2)) (Tm.rec L (2 * i + 1)))))]) (fun w2 => Ch [] w' w2) (fun K5 hK5 => ?_) (fun w2 hH6 => ?_)
      ·
        refine TC.region ?_
        refine TL.move rfl rfl ?_
        refine TL.move rfl rfl ?_
        refine TL.lss rfl rfl rfl ?_
        refine TL.em (fun e27 => ?_) (fun e27 => ?_)
        ·
          refine TL.move rfl rfl ?_
          refine TL.guardYes (d := 28) rfl rfl rfl ?_
          refine TL.move rfl rfl ?_
          refine TL.guardYes (d := 28) rfl rfl rfl ?_
          refine TL.move rfl rfl ?_
          refine TL.guardYes (d := 28) rfl rfl rfl ?_
          refine TL.move rfl rfl ?_
          refine TL.guardYes (d := 28) rfl rfl rfl ?_
          refine TL.invokeV can80 Try.underlying58 mtLess rfl pl54 (hHw.cell 0) rfl rfl (fn80 v L (2 * i + 2) (2 * i + 1) (by omega) (by omega) w' hr) (fun v32 w32 hr32 => ?_)
          obtain ⟨rfl, hc32⟩ := hr32
          refine TL.pickT rfl rfl rfl rfl ?_
          refine TL.done ?_
          exact hK5  _ _ (by repeat (first | exact trivial | refine ⟨rfl, ?_⟩ | refine ⟨congrArg (fun b => some (Value.bool b)) (by first | exact (decide_eq_true (by grind)).symm | exact (decide_eq_false (by grind)).symm | exact decide_eq_decide.2 (by grind) | exact decide_eq_true (by grind) | exact decide_eq_false (by grind) | (exfalso; grind)), ?_⟩)) (hc32)
        ·
          refine TL.move rfl rfl ?_
          refine TL.guardNo (d := 28) rfl rfl rfl rfl rfl ?_
          refine TL.guardNo (d := 28) rfl rfl rfl rfl rfl ?_
          refine TL.guardNo (d := 28) rfl rfl rfl rfl rfl ?_
          refine TL.guardNo (d := 28) rfl rfl rfl rfl rfl ?_
          refine TL.pickF rfl rfl rfl rfl ?_
          refine TL.done ?_
          exact hK5  _ _ (by repeat (first | exact trivial | refine ⟨rfl, ?_⟩ | refine ⟨congrArg (fun b => some (Value.bool b)) (by first | exact (decide_eq_true (by grind)).symm | exact (decide_eq_false (by grind)).symm | exact decide_eq_decide.2 (by grind) | exact decide_eq_true (by grind) | exact decide_eq_false (by grind) | (exfalso; grind)), ?_⟩)) (Ch.refl _ _)
      ·
        refine TC.condP rfl (fun h7 => ?_) (fun h7 => ?_)
        ·
          have h33 : 2 * i + 2 < n ∧ Tm.ahead (Tm.rec L (2 * i + 2)) (Tm.rec L (2 * i + 1)) := by assumption
          refine TC.region ?_
          refine TL.move rfl rfl ?_
          refine TL.assign rfl rfl ?_
          refine TL.done ?_
          exact hK4 (2 * i + 2) _ _ (by repeat (first | exact trivial | refine ⟨rfl, ?_⟩ | refine ⟨congrArg (fun b => some (Value.bool b)) (by first | exact (decide_eq_true (by grind)).symm | exact (decide_eq_false (by grind)).symm | exact decide_eq_decide.2 (by grind) | exact decide_eq_true (by grind) | exact decide_eq_false (by grind) | (exfalso; grind)), ?_⟩)) (⟨.inr ⟨rfl, h33.2⟩, h33.1, hH6⟩)
        ·
          have h33 : ¬ (2 * i + 2 < n ∧ Tm.ahead (Tm.rec L (2 * i + 2)) (Tm.rec L (2 * i + 1))) := by assumption
          refine TC.skip ?_
          exact hK4 (2 * i + 1) _ _ (by repeat (first | exact trivial | refine ⟨rfl, ?_⟩ | refine ⟨congrArg (fun b => some (Value.bool b)) (by first | exact (decide_eq_true (by grind)).symm | exact (decide_eq_false (by grind)).symm | exact decide_eq_decide.2 (by grind) | exact decide_eq_true (by grind) | exact decide_eq_false (by grind) | (exfalso; grind)), ?_⟩)) (⟨.inl ⟨rfl, fun h => fun h' => h33 ⟨h, h'⟩⟩, hin, hH6⟩)
    ·
      obtain ⟨hc, hjn, hM6⟩ := hM
      refine TC.seq ?_
      refine TC.seq ?_
      refine TC.region ?_
      refine TL.move rfl rfl ?_
      refine TL.move rfl rfl ?_
      refine TL.move rfl rfl ?_
      refine TL.invokeV can80 Try.underlying58 mtLess rfl pl54 ((hHw.ch0 hM6).cell 0) rfl rfl (fn80 v L j i (by omega) (by omega) w3 (hr.ch0 hM6)) (fun v38 w38 hr38 => ?_)
      obtain ⟨rfl, hc38⟩ := hr38
      have q38 : Ch (blk v) w w38 := (hch.trans (hM6.trans0 hc38) (fun x h _ => h) (by simp))
      refine TL.notP rfl rfl ?_
      refine TL.done ?_
      refine Thn.go ?_
      refine TC.condP rfl (fun h8 => ?_) (fun h8 => ?_)
      ·
        refine TC.exit ?_
        refine Thn.exit ?_
        refine Blk.miss rfl ?_
        refine Lp.exit ?_
        refine Blk.hit ?_
        refine Thn.go ?_
        refine TC.seq ?_
        refine TC.region ?_
        refine TL.move rfl rfl ?_
        refine TL.move rfl rfl ?_
        refine TL.gtr rfl rfl rfl ?_
        refine TL.assign rfl rfl ?_
        refine TL.done ?_
        refine Thn.go ?_
        refine TC.ret ?_
        refine Ends.ret [6] rfl rfl ?_
        exact ⟨L, hL, hp, hk, hd.stop Tm.ordT hc (by assumption), (ho.ch0 hM6).ch0 hc38, q38⟩
      ·
        have hlt : Tm.ahead (Tm.rec L j) (Tm.rec L i) := Decidable.not_not.1 (by assumption)
        refine TC.skip ?_
        refine Thn.go ?_
        refine TC.seq ?_
        refine TC.region ?_
        refine TL.move rfl rfl ?_
        refine TL.move rfl rfl ?_
        refine TL.move rfl rfl ?_
        refine TL.invokeV can81 Try.underlying58 mtSwap rfl pl54 (((hHw.ch0 hM6).ch0 hc38).cell 0) rfl rfl (fn81 (H + 1) v L m i j hL (by omega) (by omega) w38 ((ho.ch0 hM6).ch0 hc38)) (fun v43 w43 hr43 => ?_)
        obtain ⟨ho43, hc43⟩ := hr43
        have hij : i < j := by rcases hc with ⟨rfl, _⟩ | ⟨rfl, _⟩ <;> omega
        refine TL.done ?_
        refine Thn.go ?_
        refine TC.region ?_
        refine TL.move rfl rfl ?_
        refine TL.assign rfl rfl ?_
        refine TL.done ?_
        refine Blk.go ?_
        refine Lp.go (j) (by repeat (first | exact trivial | refine ⟨rfl, ?_⟩)) ?_ (by first | omega | (dsimp only; omega))
        exact ⟨by omega, by omega, ⟨Hp.sw L i j, by rw [Hp.len_sw, hL], (Hp.perm_sw (by omega) (by omega)).trans hp, fun k h => by rw [← g_rec, Hp.g_sw (by omega) (by omega), if_neg (by omega), if_neg (by omega)]; exact hk k h, hd.next Tm.ordT (by omega) hjn hi1 hc hlt, ho43⟩, q38.trans hc43 (fun x h _ => h) (fun x h _ => h)⟩

theorem fn45 (H : Nat) (v : Value) (l : List Tm.Timer) (m j0 : Nat) (hm : l.length = m) (hl : m ≤ 100000) (hj : j0 < m) (w : World) (hH : Has w H #[v, .bool true] 56 (0, 0)) (ho : Own w (H + 1) 27 5 v m (l.flatMap cl)) (hd : Hp.Up Tm.ahead l m j0) : Rets Try.prog 45 #[.iface 58 (.pointer (some ⟨H, 0, none⟩)), .int .i64 (j0 : Int)] w (fun r w' => ∃ L : List Tm.Timer, L.length = m ∧ L.Perm l ∧ Hp.Heap Tm.ahead L m 0 ∧ Own w' (H + 1) 27 5 v m (L.flatMap cl) ∧ Ch (blk v) w w') := by
  have hnb : H ∉ blk v := ho.notin (by omega)
  refine Rets.of (n := 23) (vs := [_, _]) Try.func45 rfl rfl rfl ?_
  refine TC.block ?_
  refine TC.loop1 (fun (j : Nat) => [(0, .iface 58 (.pointer (some ⟨H, 0, none⟩))), (1, .int .i64 (j : Int))]) (fun j w' => j < m ∧ (∃ L : List Tm.Timer, L.length = m ∧ L.Perm l ∧ Hp.Up Tm.ahead L m j ∧ Own w' (H + 1) 27 5 v m (L.flatMap cl)) ∧ Ch (blk v) w w') (fun j => j) j0 (by repeat (first | exact trivial | refine ⟨rfl, ?_⟩)) (⟨hj, ⟨l, hm, List.Perm.refl _, hd, ho⟩, Ch.refl _ _⟩) (fun j w' hHH => ?_)
  obtain ⟨hjm, ⟨L, hL, hp, hd, ho⟩, hch⟩ := hHH
  have hr := Rd.ofOwn ho
  rw [← hL] at hr
  have hHw := hH.ch hch hnb
  refine TC.block ?_
  refine TC.seq ?_
  refine TC.region ?_
  refine TL.move rfl rfl ?_
  refine TL.sub_i64 rfl rfl (by omega) (by omega) rfl ?_
  refine TL.quoT_i64 rfl rfl (by omega) (by omega) (by decide) rfl ?_
  rw [par_eq]
  refine TL.assign rfl rfl ?_
  refine TL.done ?_
  refine Thn.go ?_
  refine TC.seq ?_
  refine TC.cut0 ([(0, .iface 58 (.pointer (some ⟨H, 0, none⟩))), (1, .int .i64 (j : Int)), (4, .int .i64 (((j - 1) / 2 : Nat) : Int)), (17, .bool (decide (¬ (0 < j ∧ Tm.ahead (Tm.rec L j) (Tm.rec L ((j - 1) / 2))))))]) (fun w2 => Ch [] w' w2) (fun K1 hK1 => ?_) (fun w2 hH1 => ?_)
  ·
    refine TC.region ?_
    refine TL.move rfl rfl ?_
    refine TL.move rfl rfl ?_
    refine TL.eql rfl rfl rfl ?_
    refine TL.em (fun e10 => ?_) (fun e10 => ?_)
    ·
      refine TL.move rfl rfl ?_
      refine TL.guardNo (d := 11) rfl rfl rfl rfl rfl ?_
      refine TL.guardNo (d := 11) rfl rfl rfl rfl rfl ?_
      refine TL.guardNo (d := 11) rfl rfl rfl rfl rfl ?_
      refine TL.guardNo (d := 11) rfl rfl rfl rfl rfl ?_
      refine TL.guardNo (d := 11) rfl rfl rfl rfl rfl ?_
      refine TL.pickT rfl rfl rfl rfl ?_
      refine TL.done ?_
      exact hK1  _ _ (by repeat (first | exact trivial | refine ⟨rfl, ?_⟩ | refine ⟨congrArg (fun b => some (Value.bool b)) (by first | exact (decide_eq_true (by grind)).symm | exact (decide_eq_false (by grind)).symm | exact decide_eq_decide.2 (by grind) | exact decide_eq_true (by grind) | exact decide_eq_false (by grind) | (exfalso; grind)), ?_⟩)) (Ch.refl _ _)
    ·
      refine TL.move rfl rfl ?_
      refine TL.guardYes (d := 11) rfl rfl rfl ?_
      refine TL.move rfl rfl ?_
      refine TL.guardYes (d := 11) rfl rfl rfl ?_
      refine TL.move rfl rfl ?_
      refine TL.guardYes (d := 11) rfl rfl rfl ?_
      refine TL.move rfl rfl ?_
      refine TL.guardYes (d := 11) rfl rfl rfl ?_
      refine TL.invokeV can80 Try.underlying58 mtLess rfl pl54 (hHw.cell 0) rfl rfl (fn80 v L j ((j - 1) / 2) (by omega) (by omega) w' hr) (fun v15 w15 hr15 => ?_)
      obtain ⟨rfl, hc15⟩ := hr15
      refine TL.guardYes (d := 11) rfl rfl rfl ?_
      refine TL.notP rfl rfl ?_
      refine TL.pickF rfl rfl rfl rfl ?_
      refine TL.done ?_
      exact hK1  _ _ (by repeat (first | exact trivial | refine ⟨rfl, ?_⟩ | refine ⟨congrArg (fun b => some (Value.bool b)) (by first | exact (decide_eq_true (by grind)).symm | exact (decide_eq_false (by grind)).symm | exact decide_eq_decide.2 (by grind) | exact decide_eq_true (by grind) | exact decide_eq_false (by grind) | (exfalso; grind)), ?_⟩)) (hc15)
  ·
    refine TC.condP rfl (fun h3 => ?_) (fun h3 => ?_)
    ·
      have h17 : ¬ (0 < j ∧ Tm.ahead (Tm.rec L j) (Tm.rec L ((j - 1) / 2))) := by assumption
      refine TC.exit ?_
      refine Thn.exit ?_
      refine Blk.miss rfl ?_
      refine Lp.exit ?_
      refine Blk.hit ?_
      refine Ends.normal [] rfl rfl ?_
      exact ⟨L, hL, hp, hd.stop (by rcases Nat.eq_zero_or_pos j with h | h; exact .inl h; exact .inr (fun h' => h17 ⟨h, h'⟩)), ho.ch0 hH1, hch.trans hH1 (fun x h _ => h) (by simp)⟩
    ·
      obtain ⟨hj0, hlt⟩ : 0 < j ∧ Tm.ahead (Tm.rec L j) (Tm.rec L ((j - 1) / 2)) := Decidable.not_not.1 (by assumption)
      refine TC.skip ?_
      refine Thn.go ?_
      refine TC.seq ?_
      refine TC.region ?_
      refine TL.move rfl rfl ?_
      refine TL.move rfl rfl ?_
      refine TL.move rfl rfl ?_
      refine TL.invokeV can81 Try.underlying58 mtSwap rfl pl54 ((hHw.ch0 hH1).cell 0) rfl rfl (fn81 (H + 1) v L m ((j - 1) / 2) j hL (by omega) (by omega) w2 (ho.ch0 hH1)) (fun v21 w21 hr21 => ?_)
      obtain ⟨ho21, hc21⟩ := hr21
      refine TL.done ?_
      refine Thn.go ?_
      refine TC.region ?_
      refine TL.move rfl rfl ?_
      refine TL.assign rfl rfl ?_
      refine TL.done ?_
      refine Blk.go ?_
      refine Lp.go ((j - 1) / 2) (by repeat (first | exact trivial | refine ⟨rfl, ?_⟩)) ?_ (by first | omega | (dsimp only; omega))
      exact ⟨by omega, ⟨Hp.sw L ((j - 1) / 2) j, by rw [Hp.len_sw, hL], (Hp.perm_sw (by omega) (by omega)).trans hp, hd.next Tm.ordT (by omega) hjm hj0 hlt, ho21⟩, (hch.trans hH1 (fun x h _ => h) (by simp)).trans hc21 (fun x h _ => h) (fun x h _ => h)⟩

theorem fn24 (H : Nat) (v : Value) (l : List Tm.Timer) (hl : l.length ≤ 100000) (hn : 0 < l.length) (w : World) (hH : Has w H #[v, .bool true] 56 (0, 0)) (ho : Own w (H + 1) 27 5 v l.length (l.flatMap cl)) (hp : Hp.Heap Tm.ahead l l.length 0) : Rets Try.prog 24 #[.iface 58 (.pointer (some ⟨H, 0, none⟩))] w (fun r w' => r = .iface 27 (.agg (cl (Tm.rec l 0)).toArray) ∧ ∃ (v' : Value) (L : List Tm.Timer), Has w' H #[v', .bool true] 56 (0, 0) ∧ Own w' (H + 1) 27 5 v' L.length (L.flatMap cl) ∧ v'.ownBlock = v.ownBlock ∧ l.Perm (Tm.rec l 0 :: L) ∧ Hp.Heap Tm.ahead L L.length 0 ∧ Ch (H :: blk v) w w') := by
  have hnb : H ∉ blk v := ho.notin (by omega)
  have hmm : maxLen = 9223372036854775807 := rfl
  have hr := Rd.ofOwn ho
  refine Rets.of (n := 15) (vs := [_]) Try.func24 rfl rfl rfl ?_
  refine TC.seq ?_
  refine TC.region ?_
  refine TL.assign rfl rfl ?_
  refine TL.done ?_
  refine Thn.go ?_
  refine TC.seq ?_
  refine TC.region ?_
  refine TL.move rfl rfl ?_
  refine TL.invokeV can79 Try.underlying58 mtLen rfl pl54 (hH.cell 0) rfl rfl (fn79 v l w hr) (fun v5 w5 hr5 => ?_)
  obtain ⟨rfl, rfl⟩ := hr5
  refine TL.sub_i64 rfl rfl (by omega) (by omega) rfl ?_
  rw [show ((l.length : Int) - 1) = ((l.length - 1 : Nat) : Int) by omega]
  refine TL.assign rfl rfl ?_
  refine TL.done ?_
  refine Thn.go ?_
  refine TC.seq ?_
  refine TC.region ?_
  refine TL.move rfl rfl ?_
  refine TL.move rfl rfl ?_
  refine TL.invokeV (vs := [.int .i64 ((0 : Nat) : Int), .int .i64 ((l.length - 1 : Nat) : Int)]) can81 Try.underlying58 mtSwap rfl pl54 (hH.cell 0) rfl rfl (fn81 (H + 1) v l l.length 0 (l.length - 1) rfl hn (by omega) w5 ho) (fun v9 w9 hr9 => ?_)
  obtain ⟨ho9, hc9⟩ := hr9
  refine TL.done ?_
  refine Thn.go ?_
  refine TC.seq ?_
  refine TC.region ?_
  refine TL.move rfl rfl ?_
  refine TL.move rfl rfl ?_
  refine TL.call (vs := [.iface 58 (.pointer (some ⟨H, 0, none⟩)), .int .i64 ((0 : Nat) : Int), .int .i64 ((l.length - 1 : Nat) : Int)]) can40 rfl rfl (fn40 H v (Hp.sw l 0 (l.length - 1)) l.length 0 (l.length - 1) (Hp.len_sw _ _ _) hl (by omega) (by omega) w9 (hH.ch hc9 hnb) ho9 (Hp.Heap.pop (n := l.length - 1) (by rw [show l.length - 1 + 1 = l.length by omega]; exact hp) (by omega))) (fun v12 w12 hr12 => ?_)
  obtain ⟨L, hL, hpm, hk, hh, ho12, hc12⟩ := hr12
  have q12 : Ch (blk v) w5 w12 := hc9.trans hc12 (fun x h _ => h) (fun x h _ => h)
  have hlast : Tm.rec L (l.length - 1) = Tm.rec l 0 := by rw [hk _ (Nat.le_refl _), ← g_rec, Hp.g_sw (by omega) (by omega), if_pos rfl]; rfl
  refine TL.done ?_
  refine Thn.go ?_
  refine TC.seq ?_
  refine TC.region ?_
  refine TL.move rfl rfl ?_
  refine TL.invokeP can82 Try.underlying58 mtPop rfl rfl rfl (fn82 H v L l.length hL (by omega) w12 (hH.ch q12 hnb) ho12) (fun v14 w14 hr14 => ?_)
  obtain ⟨rfl, v', hH14, ho14, hb14, hc14⟩ := hr14
  have hsplit : L = L.take (l.length - 1) ++ [Tm.rec l 0] := by rw [← hlast, ← Tm.take_snoc (by omega), show l.length - 1 + 1 = L.length by omega, List.take_length]
  have hlt : (L.take (l.length - 1)).length = l.length - 1 := by rw [List.length_take]; omega
  have hfin : l.Perm (Tm.rec l 0 :: L.take (l.length - 1)) := by
    refine (hpm.trans (Hp.perm_sw (by omega) (by omega))).symm.trans ?_
    conv => lhs; rw [hsplit]
    exact List.perm_append_singleton _ _
  refine TL.assign rfl rfl ?_
  refine TL.done ?_
  refine Thn.go ?_
  refine TC.ret ?_
  refine Ends.ret [2] rfl rfl ?_
  exact ⟨by show _ = _; rw [← hlast]; rfl, v', L.take (l.length - 1), hH14, ho14, hb14, hfin, by rw [hlt]; exact hh.take, q12.trans hc14 (fun x h _ => List.mem_cons_of_mem _ h) (fun x h _ => by simp at h; simp [h])⟩

theorem fn30 (H : Nat) (v : Value) (l : List Tm.Timer) (t : Tm.Timer) (hl : l.length ≤ 10000) (w : World) (hH : Has w H #[v, .bool true] 56 (0, 0)) (ho : Own w (H + 1) 27 5 v l.length (l.flatMap cl)) (hp : Hp.Heap Tm.ahead l l.length 0) : Rets Try.prog 30 #[.iface 58 (.pointer (some ⟨H, 0, none⟩)), .iface 27 (.agg (cl t).toArray)] w (fun _ w' => ∃ (v' : Value) (L : List Tm.Timer), Has w' H #[v', .bool true] 56 (0, 0) ∧ Own w' (H + 1) 27 5 v' L.length (L.flatMap cl) ∧ (∀ b, v'.ownBlock = some b → v.ownBlock = some b ∨ w.heap.size ≤ b) ∧ L.Perm (t :: l) ∧ Hp.Heap Tm.ahead L L.length 0 ∧ Ch (H :: blk v) w w') := by
  have hmm : maxLen = 9223372036854775807 := rfl
  have hHl := hH.lt
  have hla : (l ++ [t]).length = l.length + 1 := by simp
  refine Rets.of (n := 12) (vs := [_, _]) Try.func30 rfl rfl rfl ?_
  refine TC.seq ?_
  refine TC.region ?_
  refine TL.move rfl rfl ?_
  refine TL.move rfl rfl ?_
  refine TL.invokeP can83 Try.underlying58 mtPush rfl rfl rfl (fn83 H v l t (by omega) w hH ho) (fun v6 w6 hr6 => ?_)
  obtain ⟨v', hH6, ho6, hb6, hc6⟩ := hr6
  refine TL.done ?_
  refine Thn.go ?_
  refine TC.region ?_
  refine TL.move rfl rfl ?_
  refine TL.move rfl rfl ?_
  refine TL.invokeV can79 Try.underlying58 mtLen rfl pl54 (hH6.cell 0) rfl rfl (fn79 v' (l ++ [t]) w6 (Rd.ofOwn ho6)) (fun v9 w9 hr9 => ?_)
  obtain ⟨rfl, rfl⟩ := hr9
  refine TL.sub_i64 rfl rfl (by omega) (by omega) rfl ?_
  rw [show (((l ++ [t]).length : Int) - 1) = ((l.length : Nat) : Int) by omega]
  refine TL.call can45 rfl rfl (fn45 H v' (l ++ [t]) (l.length + 1) l.length hla (by omega) (by omega) w9 hH6 (by rw [← hla]; exact ho6) (hp.push t)) (fun v11 w11 hr11 => ?_)
  obtain ⟨L, hL, hpm, hh, ho11, hc11⟩ := hr11
  have hnb' : H ∉ blk v' := ho6.notin (by omega)
  have hfin : Ch (H :: blk v) w w11 := hc6.trans hc11 (fun x h _ => h) (fun x h hx => by
    have h2 : v'.ownBlock = some x := by simpa [blk] using h
    rcases hb6 x h2 with h3 | h3
    · exact List.mem_cons_of_mem _ (by simpa [blk] using h3)
    · omega)
  refine TL.done ?_
  refine Ends.normal [] rfl rfl ?_
  exact ⟨v', L, hH6.ch hc11 hnb', by rw [hL]; exact ho11, hb6, hpm.trans (List.perm_append_singleton _ _), by rw [hL]; exact hh, hfin⟩

