/-
  Walks through the given program: each theorem fnN says what the call of function N of the translation hands back, for all arguments that its premises describe, and that nothing that was there has turned.
-/
import Derived.Test.YtemfaondlhglbaaT5
namespace Go.Proofs.Ytemfaondlhglbaa
open Go.Lane
theorem can37 : Callable Try.prog 37 := ⟨Try.f37, Try.func37, by kernel_rfl, rfl⟩
theorem can38 : Callable Try.prog 38 := ⟨Try.f38, Try.func38, by kernel_rfl, rfl⟩
theorem filt_yes {l : List Tm.Timer} {f : Tm.Timer → Bool} {j : Nat} (h : j < l.length) (hf : f (Tm.rec l j) = true) : (l.take (j + 1)).filter f = (l.take j).filter f ++ [Tm.rec l j] := by
  rw [Tm.take_snoc h, List.filter_append]; simp [hf, List.filter_cons]
theorem filt_no {l : List Tm.Timer} {f : Tm.Timer → Bool} {j : Nat} (h : j < l.length) (hf : f (Tm.rec l j) = false) : (l.take (j + 1)).filter f = (l.take j).filter f := by
  rw [Tm.take_snoc h, List.filter_append]; simp [hf, List.filter_cons]
theorem set_rec {l : List Tm.Timer} {i j : Nat} (x : Tm.Timer) (hi : i < l.length) (hj : j ≠ i) : Tm.rec (l.set i x) j = Tm.rec l j := by
  rw [Tm.rec, Tm.rec, List.getD_eq_getElem?_getD, List.getD_eq_getElem?_getD, List.getElem?_set_ne (by omega)]
theorem one27 : ∀ u ∈ (Value.agg #[.int .i64 0, .int .i64 0, .int .i64 0, .string ⟨#[]⟩, .string ⟨#[]⟩]).cells.toList, u.oneCell' = true := by
  simp [Value.cells, Value.oneCell']

theorem fn38 (x : Tm.Timer) (b1 b2 : Nat) (c : Int) (s : List UInt8) (w : World) (hu : Has w b1 #[.int .i64 c] 3 (0, 0)) (hs : Has w b2 #[str s] 9 (0, 0)) : Rets Try.prog 38 #[.agg (cl x).toArray, .pointer (some ⟨b1, 0, none⟩), .pointer (some ⟨b2, 0, none⟩)] w (fun v w' => v = .bool (decide (Tm.dropped x c s)) ∧ Ch [] w w') := by
  have hfi : Tm.dropped x c s ↔ x.cas = c ∧ x.stage = s := Iff.rfl
  refine Rets.of (n := 15) (vs := [_, _, _]) Try.func38 rfl rfl rfl ?_
  refine TC.seq ?_
  refine TC.region ?_
  refine TL.box rfl rfl (fun w3 hb3 hc3 hz3 => ?_)
  refine TL.assign rfl rfl ?_
  refine TL.done ?_
  refine Thn.go ?_
  refine TC.cut0 ([(4, .bool (decide (Tm.dropped x c s)))]) (fun w2 => w2 = w3) (fun K1 hK1 => ?_) (fun w2 hH => ?_)
  ·
    refine TC.region ?_
    refine TL.fieldAddr fd27k2 rfl rfl ?_
    refine TL.load pl3 rfl (hb3.cell _) rfl ?_
    refine TL.load pl3 rfl ((hu.ch0 hc3).cell 0) rfl ?_
    refine TL.eql rfl rfl rfl ?_
    refine TL.em (fun e8 => ?_) (fun e8 => ?_)
    ·
      refine TL.move rfl rfl ?_
      refine TL.guardYes (d := 9) rfl rfl rfl ?_
      refine TL.fieldAddr fd27k3 rfl rfl ?_
      refine TL.guardYes (d := 9) rfl rfl rfl ?_
      refine TL.load pl9 rfl (hb3.cell _) rfl ?_
      refine TL.guardYes (d := 9) rfl rfl rfl ?_
      refine TL.load pl9 rfl ((hs.ch0 hc3).cell 0) rfl ?_
      refine TL.guardYes (d := 9) rfl rfl rfl ?_
      refine TL.eqlStr rfl rfl rfl ?_
      refine TL.pickT rfl rfl rfl rfl ?_
      refine TL.assign rfl rfl ?_
      refine TL.done ?_
      exact hK1  _ _ (by repeat (first | exact trivial | refine ⟨rfl, ?_⟩ | refine ⟨congrArg (fun b => some (Value.bool b)) (by first | exact (decide_eq_true (by grind)).symm | exact (decide_eq_false (by grind)).symm | exact decide_eq_decide.2 (by grind) | exact decide_eq_true (by grind) | exact decide_eq_false (by grind) | (exfalso; grind)), ?_⟩)) (rfl)
    ·
      refine TL.move rfl rfl ?_
      refine TL.guardNo (d := 9) rfl rfl rfl rfl rfl ?_
      refine TL.guardNo (d := 9) rfl rfl rfl rfl rfl ?_
      refine TL.guardNo (d := 9) rfl rfl rfl rfl rfl ?_
      refine TL.guardNo (d := 9) rfl rfl rfl rfl rfl ?_
      refine TL.pickF rfl rfl rfl rfl ?_
      refine TL.assign rfl rfl ?_
      refine TL.done ?_
      exact hK1  _ _ (by repeat (first | exact trivial | refine ⟨rfl, ?_⟩ | refine ⟨congrArg (fun b => some (Value.bool b)) (by first | exact (decide_eq_true (by grind)).symm | exact (decide_eq_false (by grind)).symm | exact decide_eq_decide.2 (by grind) | exact decide_eq_true (by grind) | exact decide_eq_false (by grind) | (exfalso; grind)), ?_⟩)) (rfl)
  ·
    refine TC.ret ?_
    refine Ends.ret [4] rfl rfl ?_
    exact ⟨rfl, by subst hH; exact hc3⟩

theorem fn37 (a : Value) (base : Nat) (l : List Tm.Timer) (f : FuncId) (lb : Array Value) (p : Tm.Timer → Prop) [DecidablePred p] (hf : Callable Try.prog f) (w : World) (ha : Own w base 27 5 a l.length (l.flatMap cl)) (hp : ∀ x w2, Ch (blk a) w w2 → Rets Try.prog f (#[.agg (cl x).toArray] ++ lb) w2 (fun v w3 => v = .bool (decide (p x)) ∧ Ch [] w2 w3)) : Rets Try.prog 37 #[a, .func (.func f) #[] lb] w (fun v w' => Own w' base 27 5 v (l.filter (fun x => !decide (p x))).length ((l.filter (fun x => !decide (p x))).flatMap cl) ∧ Ch (blk a) w w') := by
  obtain ⟨ad, c, rfl⟩ := ha.shape
  have hmx : l.length ≤ 9223372036854775807 := (Rd.ofOwn ha).nlt
  have hmm : maxLen = 9223372036854775807 := rfl
  refine Rets.of (n := 42) (vs := [_, _]) Try.func37 rfl rfl rfl ?_
  refine TC.seq ?_
  refine TC.region ?_
  refine TL.assign rfl rfl ?_
  refine TL.done ?_
  refine Thn.go ?_
  refine TC.seq ?_
  refine TC.region ?_
  refine TL.move rfl rfl ?_
  refine TL.move rfl rfl ?_
  refine TL.call can31 rfl rfl (fn31 _ l f lb p hf w (Rd.ofOwn ha) (fun x w2 h2 => hp x w2 (h2.weaken (by simp)))) (fun v10 w10 hr10 => ?_)
  obtain ⟨⟨k, rfl, hk⟩, hc10⟩ := hr10
  refine TL.assign rfl rfl ?_
  refine TL.done ?_
  refine Thn.go ?_
  refine TC.seq ?_
  refine TC.seq ?_
  refine TC.region ?_
  refine TL.move rfl rfl ?_
  refine TL.eql rfl rfl rfl ?_
  refine TL.done ?_
  refine Thn.go ?_
  refine TC.condP rfl (fun h1 => ?_) (fun h1 => ?_)
  ·
    have hn : ∀ j, j < l.length → ¬ p (Tm.rec l j) := by rcases hk with ⟨_, h⟩ | ⟨i, h, _⟩; exact h; omega
    have hfl : l.filter (fun x => !decide (p x)) = l := List.filter_eq_self.2 (fun x hx => by obtain ⟨j, hj, rfl⟩ := List.getElem_of_mem hx; rw [Tm.rec_eq hj]; simpa using hn j hj)
    refine TC.seq ?_
    refine TC.region ?_
    refine TL.move rfl rfl ?_
    refine TL.assign rfl rfl ?_
    refine TL.done ?_
    refine Thn.go ?_
    refine TC.ret ?_
    refine Thn.ret ?_
    refine Ends.ret [4] rfl rfl ?_
    exact ⟨by rw [hfl]; exact ha.ch0 hc10, hc10.weaken (by simp)⟩
  ·
    obtain ⟨i, rfl, hil, hpi, hpj⟩ : ∃ i : Nat, k = (i : Int) ∧ i < l.length ∧ p (Tm.rec l i) ∧ ∀ j, j < i → ¬ p (Tm.rec l j) := by rcases hk with ⟨h, _⟩ | h; omega; exact h
    obtain ⟨g, cg, eg⟩ := ha.form (by omega)
    cases eg
    have hfi : (l.take (i + 1)).filter (fun x => !decide (p x)) = l.take i := by
      rw [filt_no hil (by simpa using hpi)]
      exact List.filter_eq_self.2 (fun x hx => by obtain ⟨j, hj, rfl⟩ := List.getElem_of_mem hx; rw [List.length_take] at hj; rw [List.getElem_take, Tm.rec_eq (by omega)]; simpa using hpj j (by omega))
    refine TC.skip ?_
    refine Thn.go ?_
    refine TC.seq ?_
    refine TC.seq ?_
    refine TC.region ?_
    refine TL.move rfl rfl ?_
    refine TL.add_i64 rfl rfl (by omega) (by omega) rfl ?_
    refine TL.assign rfl rfl ?_
    refine TL.done ?_
    refine Thn.go ?_
    refine TC.block ?_
    refine TC.loop2 (fun (k : Nat) (j : Nat) => [(0, .slice (some ⟨g, 0, none⟩) l.length c), (1, .func (.func f) #[] lb), (5, .int .i64 (k : Int)), (6, .int .i64 (j : Int))]) (fun k j w' => k < j ∧ j ≤ l.length ∧ (∃ N : List Tm.Timer, N.length = l.length ∧ Own w' base 27 5 (.slice (some ⟨g, 0, none⟩) l.length c) l.length (N.flatMap cl) ∧ N.take k = (l.take j).filter (fun x => !decide (p x)) ∧ ∀ m, j ≤ m → m < l.length → Tm.rec N m = Tm.rec l m) ∧ Ch (blk (.slice (some ⟨g, 0, none⟩) l.length c)) w w') (fun _ j => l.length - j) i (i + 1) (by repeat (first | exact trivial | refine ⟨rfl, ?_⟩)) (⟨by omega, by omega, ⟨l, rfl, ha.ch0 hc10, hfi.symm, fun _ _ _ => rfl⟩, hc10.weaken (by simp)⟩) (fun k j w' hH => ?_)
    obtain ⟨hkj, hj, ⟨N, hN, hown, htk, hrs⟩, hch⟩ := hH
    have hcap := (Rd.ofOwn hown).cap
    refine TC.seq ?_
    refine TC.seq ?_
    refine TC.region ?_
    refine TL.move rfl rfl ?_
    refine TL.move rfl rfl ?_
    refine TL.lenSlice Try.underlying25 rfl rfl ?_
    refine TL.lss rfl rfl rfl ?_
    refine TL.done ?_
    refine Thn.go ?_
    refine TC.condP rfl (fun h2 => ?_) (fun h2 => ?_)
    ·
      have hjl : j < l.length := by omega
      have hrj := hrs j (Nat.le_refl _) hjl
      refine TC.skip ?_
      refine Thn.go ?_
      refine TC.seq ?_
      refine TC.block ?_
      refine TC.seq ?_
      refine TC.region ?_
      refine TL.move rfl rfl ?_
      refine TL.move rfl rfl ?_
      refine TL.indexAddr (j) sl25 rfl rfl (by first | rfl | omega) (by omega) rfl ?_
      refine TL.loadAgg (cl (Tm.rec l j)) ag27 rfl rfl (fun q hq => by rw [← hN] at hown; obtain ⟨b', o', e, hh⟩ := recAt (i := j) (Rd.ofOwn hown) (by omega); cases e; rw [← hrj]; exact hh q hq) rfl ?_
      refine TL.alloc ze27 rfl (fun w7 hb7 hc7 hz7 => ?_)
      refine TL.store sz27 rfl rfl rfl hb7 (by simp [Value.cells]) (by simpa [Value.cells] using cl_one (Tm.rec l j)) (.inl rfl) (fun ws1 hbs1 hcs1 hzs1 => ?_)
      replace hbs1 : Has ws1 w'.heap.size (cl (Tm.rec l j)).toArray 27 (0, 0) := hbs1.setAll rfl
      have q1 : Ch [] w' ws1 := hc7.then1 hcs1 (Nat.le_refl _)
      have hch1 : Ch (blk (.slice (some ⟨g, 0, none⟩) l.length c)) w ws1 := hch.trans q1 (fun x h _ => h) (by simp)
      refine TL.done ?_
      refine Thn.go ?_
      refine TC.seq ?_
      refine TC.region ?_
      refine TL.move rfl rfl ?_
      refine TL.loadAgg (cl (Tm.rec l j)) ag27 rfl rfl (fun q _ => by rw [hbs1.cell, Nat.zero_add, List.getElem?_toArray]) rfl ?_
      refine TL.callVal hf (R := fun v w2 => v = .bool (decide (p (Tm.rec l j))) ∧ Ch [] ws1 w2) rfl rfl rfl (by simpa using hp (Tm.rec l j) ws1 hch1) (fun v28 w28 hr28 => ?_)
      obtain ⟨rfl, hc28⟩ := hr28
      have hown1 := (hown.ch0 q1).ch0 hc28
      have hch2 : Ch (blk (.slice (some ⟨g, 0, none⟩) l.length c)) w w28 := hch1.trans hc28 (fun x h _ => h) (by simp)
      refine TL.notP rfl rfl ?_
      refine TL.done ?_
      refine Thn.go ?_
      refine TC.condP rfl (fun h3 => ?_) (fun h3 => ?_)
      ·
        have hnp : ¬ p (Tm.rec l j) := by assumption
        rw [← hN] at hown1
        obtain ⟨cur, hcur, hcsz, hcn, _, hgb, _⟩ := hown1.has
        refine TC.seq ?_
        refine TC.region ?_
        refine TL.move rfl rfl ?_
        refine TL.move rfl rfl ?_
        refine TL.loadAgg (cl (Tm.rec l j)) ag27 rfl rfl (fun q _ => by rw [(hbs1.ch0 hc28).cell, Nat.zero_add, List.getElem?_toArray]) rfl ?_
        refine TL.indexAddr (k) sl25 rfl rfl (by first | rfl | omega) (by omega) rfl ?_
        refine TL.store sz27 rfl rfl rfl hcur (by rw [hcsz]; have := Nat.mul_le_mul_right 5 (show k + 1 ≤ c by omega); omega) (by simpa [Value.cells] using cl_one (Tm.rec l j)) (.inl rfl) (fun ws2 hbs2 hcs2 hzs2 => ?_)
        have hown2 := hown1.setRec cl_len hcur (k := k) (x := Tm.rec l j) (by omega) hbs2
        rw [hN] at hown2
        refine TL.done ?_
        refine Thn.go ?_
        refine TC.region ?_
        refine TL.move rfl rfl ?_
        refine TL.add_i64 rfl rfl (by omega) (by omega) rfl ?_
        refine TL.assign rfl rfl ?_
        refine TL.done ?_
        refine Blk.go ?_
        refine Thn.go ?_
        refine TC.region ?_
        refine TL.move rfl rfl ?_
        refine TL.add_i64 rfl rfl (by omega) (by omega) rfl ?_
        refine TL.assign rfl rfl ?_
        refine TL.done ?_
        refine Lp.go ((k + 1, j + 1)) (by repeat (first | exact trivial | refine ⟨rfl, ?_⟩)) ?_ (by first | omega | (dsimp only; omega))
        refine ⟨by show k + 1 < j + 1; omega, by show j + 1 ≤ l.length; omega, ⟨N.set k (Tm.rec l j), by rw [List.length_set, hN], hown2, ?_, fun m h1 h2 => ?_⟩, hch2.trans hcs2 (fun x h _ => h) (fun x h _ => by simpa [blk, Value.ownBlock] using h)⟩
        · show (N.set k (Tm.rec l j)).take (k + 1) = (l.take (j + 1)).filter _
          rw [filt_yes hjl (by simpa using hnp), ← htk, List.take_add_one, List.take_set_of_le (Nat.le_refl _), List.getElem?_set_self (by omega)]; rfl
        · have h1' : j + 1 ≤ m := h1
          rw [set_rec _ (by omega) (by omega)]; exact hrs m (by omega) h2
      ·
        refine TC.skip ?_
        refine Blk.go ?_
        refine Thn.go ?_
        refine TC.region ?_
        refine TL.move rfl rfl ?_
        refine TL.add_i64 rfl rfl (by omega) (by omega) rfl ?_
        refine TL.assign rfl rfl ?_
        refine TL.done ?_
        refine Lp.go ((k, j + 1)) (by repeat (first | exact trivial | refine ⟨rfl, ?_⟩)) ?_ (by first | omega | (dsimp only; omega))
        exact ⟨by show k < j + 1; omega, by show j + 1 ≤ l.length; omega, ⟨N, hN, hown1, by rw [htk]; exact (filt_no hjl (by simpa using (Decidable.not_not.1 (by assumption) : p (Tm.rec l j)))).symm, fun m h1 h2 => hrs m (by have h1' : j + 1 ≤ m := h1; omega) h2⟩, hch2⟩
    ·
      have hjl : j = l.length := by omega
      subst hjl
      rw [List.take_length] at htk
      have hkl : (l.filter (fun x => !decide (p x))).length = k := by rw [← htk, List.length_take]; omega
      obtain ⟨cur, hcur, hcsz, hcn, _, hgb, _⟩ := hown.has
      refine TC.exit ?_
      refine Thn.exit ?_
      refine Lp.exit ?_
      refine Blk.hit ?_
      refine Thn.go ?_
      refine TC.seq ?_
      refine TC.region ?_
      refine TL.move rfl rfl ?_
      refine TL.move rfl rfl ?_
      refine TL.sliceFrom (k) sl25 rfl rfl (by first | rfl | omega) (by omega) rfl ?_
      refine TL.clear (b := g) (off := k * 5) (cur := cur) (tb := 27) sl25 one27 (congrArg (fun q => some (Value.slice q (l.length - k) (c - k))) (show adv (some ⟨g, 0, none⟩) c k 5 = some ⟨g, k * 5, none⟩ by rw [adv, if_neg (by omega)]; simp [Addr.add]; omega)) hcur (by rw [hcsz, ← Nat.add_mul]; exact Nat.mul_le_mul_right 5 (by omega)) (fun wc zs hzl hbc hcc hzc => ?_)
      refine TL.done ?_
      refine Thn.go ?_
      refine TC.seq ?_
      refine TC.region ?_
      refine TL.move rfl rfl ?_
      refine TL.move rfl rfl ?_
      refine TL.sliceTo (k) sl25 rfl rfl (by first | rfl | omega) (by omega) rfl ?_
      refine TL.assign rfl rfl ?_
      refine TL.done ?_
      refine Thn.go ?_
      refine TC.ret ?_
      refine Ends.ret [4] rfl rfl ?_
      exact ⟨by rw [hkl, ← htk, ← rows_take cl_len]; exact Own.cutSpl hown hcur (by omega) (by rw [hzl, hcsz, ← Nat.add_mul]; exact Nat.mul_le_mul_right 5 (by omega)) hbc, hch.trans hcc (fun x h _ => h) (fun x h _ => by simpa [blk, Value.ownBlock] using h)⟩

theorem fn19 (a : Value) (l : List Tm.Timer) (k : Int) (s : List UInt8) (w : World) (ha : Rd w a 5 l.length (l.flatMap cl)) : Rets Try.prog 19 #[a, .int .i64 k, str s] w (fun v w' => ∃ r, v = .tuple #[r, .int .i64 (Tm.checkE l : Int)] ∧ Own w' w.heap.size 27 5 r (Tm.dropL l k s).length ((Tm.dropL l k s).flatMap cl) ∧ Ch [] w w') := by
  refine Rets.of (n := 18) (vs := [_, _, _]) Try.func19 rfl rfl rfl ?_
  refine TC.seq ?_
  refine TC.region ?_
  refine TL.box rfl rfl (fun w4 hb4 hc4 hz4 => ?_)
  replace hb4 : Has w4 w.heap.size #[.int .i64 k] 3 (0, 0) := hb4
  refine TL.box rfl rfl (fun w5 hb5 hc5 hz5 => ?_)
  replace hb5 : Has w5 w4.heap.size #[str s] 9 (0, 0) := hb5
  have q5 := hc4.trans0 hc5
  refine TL.assign rfl rfl ?_
  refine TL.assign rfl rfl ?_
  refine TL.done ?_
  refine Thn.go ?_
  refine TC.seq ?_
  refine TC.seq ?_
  refine TC.region ?_
  refine TL.move rfl rfl ?_
  refine TL.call can14 rfl rfl (fn14 _ l w5 (ha.ch0 q5)) (fun v10 w10 hr10 => ?_)
  obtain ⟨rfl, hc10⟩ := hr10
  have q10 := q5.trans0 hc10
  refine TL.assign rfl rfl ?_
  refine TL.done ?_
  refine Thn.go ?_
  refine TC.seq ?_
  refine TC.region ?_
  refine TL.move rfl rfl ?_
  refine TL.neq rfl rfl rfl ?_
  refine TL.done ?_
  refine Thn.go ?_
  refine TC.condP rfl (fun h1 => ?_) (fun h1 => ?_)
  ·
    have e2 := Tm.drop_check (c := k) (s := s) (show Tm.checkE l ≠ 0 by omega)
    refine TC.seq ?_
    refine TC.region ?_
    refine TL.move rfl rfl ?_
    refine TL.assign rfl rfl ?_
    refine TL.assign rfl rfl ?_
    refine TL.done ?_
    refine Thn.go ?_
    refine TC.ret ?_
    refine Thn.ret ?_
    refine Ends.ret [6, 7] rfl rfl ?_
    exact ⟨_, rfl, by rw [e2]; exact World.ownsRow_nil _ _ _ _, q10⟩
  ·
    have h0 : Tm.checkE l = 0 := by omega
    obtain ⟨hlen, _⟩ := Tm.check_zero h0
    have e2 := Tm.drop_ok (c := k) (s := s) h0
    refine TC.skip ?_
    refine Thn.go ?_
    refine TC.seq ?_
    refine TC.region ?_
    refine TL.move rfl rfl ?_
    refine TL.call can33 rfl rfl (fn33 _ l (by omega) w10 (ha.ch0 q10)) (fun v15 w15 hr15 => ?_)
    obtain ⟨hv15, hc15⟩ := hr15
    have z4 := hb4.lt; have z5 := hb5.lt; have z10 := hc10.size; have zc5 := hc5.size
    refine TL.makeFn (cs := [.tmp 4, .tmp 5]) (vs := [_, _]) rfl rfl ?_
    refine TL.call can37 rfl rfl (fn37 _ w10.heap.size l 38 #[.pointer (some ⟨w.heap.size, 0, none⟩), .pointer (some ⟨w4.heap.size, 0, none⟩)] (fun x => Tm.dropped x k s) can38 w15 hv15 (fun x w2 h2 => by simpa using fn38 x _ _ k s w2 ((((hb4.ch0 hc5).ch0 hc10).ch0 hc15).ch h2 (hv15.notin (by omega))) (((hb5.ch0 hc10).ch0 hc15).ch h2 (hv15.notin (by omega))))) (fun v17 w17 hr17 => ?_)
    obtain ⟨hv17, hc17⟩ := hr17
    refine TL.assign rfl rfl ?_
    refine TL.assign rfl rfl ?_
    refine TL.done ?_
    refine Thn.go ?_
    refine TC.ret ?_
    refine Ends.ret [6, 7] rfl rfl ?_
    exact ⟨_, by rw [h0]; rfl, by rw [e2]; exact hv17.base q10.size, q10.trans0 (hv15.thenCh hc15 hc17)⟩

theorem fn20 (a : Value) (l : List Tm.Timer) (k : Int) (s : List UInt8) (w : World) (ha : Rd w a 5 l.length (l.flatMap cl)) : Rets Try.prog 20 #[a, .int .i64 k, str s] w (fun v w' => ∃ r, v = .tuple #[r, .int .i64 (Tm.checkE l : Int)] ∧ Own w' w.heap.size 27 5 r (Tm.dropL l k s).length ((Tm.dropL l k s).flatMap cl) ∧ Ch [] w w') := by
  obtain ⟨ad, c, rfl, _⟩ := ha.shape
  have hmx : l.length ≤ 9223372036854775807 := ha.nlt
  have hmm : maxLen = 9223372036854775807 := rfl
  refine Rets.of (n := 46) (vs := [_, _, _]) Try.func20 rfl rfl rfl ?_
  refine TC.seq ?_
  refine TC.region ?_
  refine TL.assign rfl rfl ?_
  refine TL.assign rfl rfl ?_
  refine TL.done ?_
  refine Thn.go ?_
  refine TC.seq ?_
  refine TC.region ?_
  refine TL.move rfl rfl ?_
  refine TL.call can21 rfl rfl (fn21 _ l w ha) (fun v12 w12 hr12 => ?_)
  obtain ⟨rfl, hc12⟩ := hr12
  refine TL.assign rfl rfl ?_
  refine TL.done ?_
  refine Thn.go ?_
  refine TC.seq ?_
  refine TC.seq ?_
  refine TC.region ?_
  refine TL.move rfl rfl ?_
  refine TL.neq rfl rfl rfl ?_
  refine TL.done ?_
  refine Thn.go ?_
  refine TC.condP rfl (fun h1 => ?_) (fun h1 => ?_)
  ·
    have e2 := Tm.drop_check (c := k) (s := s) (show Tm.checkE l ≠ 0 by omega)
    refine TC.seq ?_
    refine TC.region ?_
    refine TL.move rfl rfl ?_
    refine TL.assign rfl rfl ?_
    refine TL.assign rfl rfl ?_
    refine TL.done ?_
    refine Thn.go ?_
    refine TC.ret ?_
    refine Thn.ret ?_
    refine Ends.ret [6, 7] rfl rfl ?_
    exact ⟨_, rfl, by rw [e2]; exact World.ownsRow_nil _ _ _ _, hc12⟩
  ·
    have h0 : Tm.checkE l = 0 := by omega
    obtain ⟨hlen, _⟩ := Tm.check_zero h0
    have e2 := Tm.drop_ok (c := k) (s := s) h0
    refine TC.skip ?_
    refine Thn.go ?_
    refine TC.seq ?_
    refine TC.region ?_
    refine TL.assign rfl rfl ?_
    refine TL.done ?_
    refine Thn.go ?_
    refine TC.seq ?_
    refine TC.seq ?_
    refine TC.region ?_
    refine TL.assign rfl rfl ?_
    refine TL.done ?_
    refine Thn.go ?_
    refine TC.block ?_
    refine TC.loop2 (fun (i : Nat) (v : Value) => [(0, .slice ad l.length c), (1, .int .i64 k), (2, str s), (9, v), (10, .int .i64 (i : Int))]) (fun i v w' => i ≤ l.length ∧ Own w' w12.heap.size 27 5 v ((l.take i).filter (fun w => !decide (Tm.dropped w k s))).length (((l.take i).filter (fun w => !decide (Tm.dropped w k s))).flatMap cl) ∧ Ch [] w12 w') (fun i _ => l.length - i) 0 (.slice none 0 0) (by repeat (first | exact trivial | refine ⟨rfl, ?_⟩)) (⟨by omega, World.ownsRow_nil _ _ _ _, Ch.refl _ _⟩) (fun i v w' hH => ?_)
    obtain ⟨hi, hown, hch⟩ := hH
    have hsl := List.length_filter_le (fun w => !decide (Tm.dropped w k s)) (l.take i)
    rw [List.length_take] at hsl
    refine TC.seq ?_
    refine TC.seq ?_
    refine TC.region ?_
    refine TL.move rfl rfl ?_
    refine TL.move rfl rfl ?_
    refine TL.lenSlice Try.underlying25 rfl rfl ?_
    refine TL.lss rfl rfl rfl ?_
    refine TL.done ?_
    refine Thn.go ?_
    refine TC.condP rfl (fun h2 => ?_) (fun h2 => ?_)
    ·
      have hil : i < l.length := by omega
      obtain ⟨b1, o1, rfl, hce⟩ := recAt ((ha.ch0 hc12).ch0 hch) hil
      obtain ⟨x, hx⟩ : ∃ x, Tm.rec l i = x := ⟨_, rfl⟩
      rw [hx] at hce
      have hdr : Tm.dropped x k s ↔ x.cas = k ∧ x.stage = s := Iff.rfl
      refine TC.skip ?_
      refine Thn.go ?_
      refine TC.seq ?_
      refine TC.block ?_
      refine TC.regionBool (d := 37) (p := ¬ Tm.dropped x k s) (fun K3 hK3 => ?_) ?_
      ·
        refine TL.move rfl rfl ?_
        refine TL.move rfl rfl ?_
        refine TL.indexAddr (i) sl25 rfl rfl (by first | rfl | omega) (by omega) rfl ?_
        refine TL.fieldAddr fd27k2 rfl rfl ?_
        refine TL.load pl3 rfl ((show _ = some (Value.int .i64 x.cas) from hce 2 (by decide))) rfl ?_
        refine TL.move rfl rfl ?_
        refine TL.neq rfl rfl rfl ?_
        refine TL.em (fun e28 => ?_) (fun e28 => ?_)
        ·
          refine TL.move rfl rfl ?_
          refine TL.guardNo (d := 29) rfl rfl rfl rfl rfl ?_
          refine TL.guardNo (d := 29) rfl rfl rfl rfl rfl ?_
          refine TL.guardNo (d := 29) rfl rfl rfl rfl rfl ?_
          refine TL.guardNo (d := 29) rfl rfl rfl rfl rfl ?_
          refine TL.guardNo (d := 29) rfl rfl rfl rfl rfl ?_
          refine TL.guardNo (d := 29) rfl rfl rfl rfl rfl ?_
          refine TL.guardNo (d := 29) rfl rfl rfl rfl rfl ?_
          refine TL.pickT rfl rfl rfl rfl ?_
          refine TL.done ?_
          refine hK3 _ ?_
          refine Le.here rfl (by first | exact decide_eq_true (by omega) | exact decide_eq_false (by omega) | exact decide_eq_decide.2 (by omega) | exact decide_eq_true (by grind) | exact decide_eq_false (by grind) | exact decide_eq_decide.2 (by grind)) ?_
          repeat (first | exact Le.refl _ | refine Le.skip rfl ?_)
        ·
          refine TL.move rfl rfl ?_
          refine TL.guardYes (d := 29) rfl rfl rfl ?_
          refine TL.move rfl rfl ?_
          refine TL.guardYes (d := 29) rfl rfl rfl ?_
          refine TL.move rfl rfl ?_
          refine TL.guardYes (d := 29) rfl rfl rfl ?_
          refine TL.indexAddr (i) sl25 rfl rfl (by first | rfl | omega) (by omega) rfl ?_
          refine TL.guardYes (d := 29) rfl rfl rfl ?_
          refine TL.fieldAddr fd27k3 rfl rfl ?_
          refine TL.guardYes (d := 29) rfl rfl rfl ?_
          refine TL.load pl9 rfl ((show _ = some (str x.stage) from hce 3 (by decide))) rfl ?_
          refine TL.guardYes (d := 29) rfl rfl rfl ?_
          refine TL.move rfl rfl ?_
          refine TL.guardYes (d := 29) rfl rfl rfl ?_
          refine TL.neqStr rfl rfl rfl ?_
          refine TL.pickF rfl rfl rfl rfl ?_
          refine TL.done ?_
          refine hK3 _ ?_
          refine Le.here rfl (by first | exact decide_eq_true (by omega) | exact decide_eq_false (by omega) | exact decide_eq_decide.2 (by omega) | exact decide_eq_true (by grind) | exact decide_eq_false (by grind) | exact decide_eq_decide.2 (by grind)) ?_
          repeat (first | exact Le.refl _ | refine Le.skip rfl ?_)
      refine TC.condP rfl (fun h5 => ?_) (fun h5 => ?_)
      ·
        have z1 := hch.size
        refine TC.region ?_
        refine TL.move rfl rfl ?_
        refine TL.move rfl rfl ?_
        refine TL.move rfl rfl ?_
        refine TL.indexAddr (i) sl25 rfl rfl (by first | rfl | omega) (by omega) rfl ?_
        refine TL.loadAgg (cl x) ag27 rfl rfl (fun j hj => hce j hj) rfl ?_
        refine TL.buildSlice [.tmp 42] sl25 rfl rfl rfl (by decide) (by first | simp [Value.cells]; done | simp [Value.cells, cl_len]; done) rfl (fun w43 hb43 hc43 hz43 => ?_)
        refine TL.append sl25 rfl rfl rfl (hown.ch0 hc43) (News.ofRd Try.underlying25 (recOne hb43) (rows_one _)) (by omega) (by omega) (by omega) (fun v44 w44 hv44 hc44 _ => ?_)
        refine TL.assign rfl rfl ?_
        refine TL.done ?_
        refine Blk.go ?_
        refine Thn.go ?_
        refine TC.region ?_
        refine TL.move rfl rfl ?_
        refine TL.add_i64 rfl rfl (by omega) (by omega) rfl ?_
        refine TL.assign rfl rfl ?_
        refine TL.done ?_
        refine Lp.go ((i + 1, v44)) (by repeat (first | exact trivial | refine ⟨rfl, ?_⟩)) ?_ (by first | omega | (dsimp only; omega))
        refine ⟨by show i + 1 ≤ l.length; omega, ?_, (hown.ch0 hc43).thenCh (hch.trans0 hc43) hc44⟩
        show Own w44 _ 27 5 v44 ((l.take (i + 1)).filter (fun w => !decide (Tm.dropped w k s))).length _
        rw [filt_yes hil (by rw [hx]; simpa using (by assumption : ¬ Tm.dropped x k s)), hx, List.length_append, List.flatMap_append]; exact hv44
      ·
        refine TC.skip ?_
        refine Blk.go ?_
        refine Thn.go ?_
        refine TC.region ?_
        refine TL.move rfl rfl ?_
        refine TL.add_i64 rfl rfl (by omega) (by omega) rfl ?_
        refine TL.assign rfl rfl ?_
        refine TL.done ?_
        refine Lp.go ((i + 1, v)) (by repeat (first | exact trivial | refine ⟨rfl, ?_⟩)) ?_ (by first | omega | (dsimp only; omega))
        refine ⟨by show i + 1 ≤ l.length; omega, ?_, hch⟩
        show Own w' _ 27 5 v ((l.take (i + 1)).filter (fun w => !decide (Tm.dropped w k s))).length _
        rw [filt_no hil (by rw [hx]; simpa using (Decidable.not_not.1 (by assumption) : Tm.dropped x k s))]; exact hown
    ·
      have hil : i = l.length := by omega
      subst hil
      rw [List.take_length] at hown
      refine TC.exit ?_
      refine Thn.exit ?_
      refine Lp.exit ?_
      refine Blk.hit ?_
      refine Thn.go ?_
      refine TC.seq ?_
      refine TC.region ?_
      refine TL.move rfl rfl ?_
      refine TL.assign rfl rfl ?_
      refine TL.assign rfl rfl ?_
      refine TL.done ?_
      refine Thn.go ?_
      refine TC.ret ?_
      refine Ends.ret [6, 7] rfl rfl ?_
      exact ⟨_, by rw [h0]; rfl, by rw [e2]; exact hown.base hc12.size, hc12.trans0 hch⟩

