/-
  Walks through the given program: each theorem fnN says what the call of function N of the translation hands back, for all arguments that its premises describe, and that nothing that was there has turned.
-/
import Derived.Test.YtjnagpddiemdhaaW7
namespace Go.Proofs.Ytjnagpddiemdhaa
open Go.Lane
theorem can35 : Callable Try.prog 35 := ⟨Try.f35, Try.func35, by kernel_rfl, rfl⟩
theorem can36 : Callable Try.prog 36 := ⟨Try.f36, Try.func36, by kernel_rfl, rfl⟩
theorem can38 : Callable Try.prog 38 := ⟨Try.f38, Try.func38, by kernel_rfl, rfl⟩
theorem can45 : Callable Try.prog 45 := ⟨Try.f45, Try.func45, by kernel_rfl, rfl⟩
theorem can46 : Callable Try.prog 46 := ⟨Try.f46, Try.func46, by kernel_rfl, rfl⟩
theorem can47 : Callable Try.prog 47 := ⟨Try.f47, Try.func47, by kernel_rfl, rfl⟩
theorem can48 : Callable Try.prog 48 := ⟨Try.f48, Try.func48, by kernel_rfl, rfl⟩

theorem fn45 (a : Value) (l : List Wk.Work) (b : Nat) (id : Int) (g : FuncId) (lb : Array Value) (tE : Wk.Work → Nat) (tW : Wk.Work → Wk.Work) (hl : l.length ≤ 100000) (w : World) (ha : Rd w a 6 l.length (l.flatMap cl)) (hid : Has w b #[.int .i64 id] 3 (0, 0)) (hf : Callable Try.prog g) (hg : ∀ x w2, Ch [] w w2 → Rets Try.prog g (#[.agg (cl x).toArray] ++ lb) w2 (fun v w3 => v = .tuple #[.agg (cl (tW x)).toArray, .int .i64 (tE x : Int)] ∧ Ch [] w2 w3)) : Rets Try.prog 45 #[a, .func (.func 46) #[] #[.pointer (some ⟨b, 0, none⟩)], .func (.func g) #[] lb] w (fun v w' => ∃ r, v = .tuple #[r, .int .i64 (Wk.tdE l id tE : Int)] ∧ Own w' w.heap.size 33 6 r (Wk.tdL l id tE tW).length ((Wk.tdL l id tE tW).flatMap cl) ∧ Ch [] w w') := by
  obtain ⟨ad, c, rfl, _⟩ := ha.shape
  refine Rets.of (n := 36) (vs := [_, _, _]) Try.func45 rfl rfl rfl ?_
  refine TC.seq ?_
  refine TC.region ?_
  refine TL.assign rfl rfl ?_
  refine TL.assign rfl rfl ?_
  refine TL.done ?_
  refine Thn.go ?_
  refine TC.seq ?_
  refine TC.region ?_
  refine TL.move rfl rfl ?_
  refine TL.move rfl rfl ?_
  refine TL.call can48 rfl rfl (fn48 _ l 46 #[.pointer (some ⟨b, 0, none⟩)] (fun x => x.id = id) can46 w ha (fun x w2 h2 => by simpa using fn46 x b id w2 (hid.ch0 h2))) (fun v14 w14 hr14 => ?_)
  obtain ⟨⟨k, rfl, hk⟩, hc14⟩ := hr14
  refine TL.assign rfl rfl ?_
  refine TL.done ?_
  refine Thn.go ?_
  refine TC.seq ?_
  refine TC.seq ?_
  refine TC.region ?_
  refine TL.move rfl rfl ?_
  refine TL.lss rfl rfl rfl ?_
  refine TL.done ?_
  refine Thn.go ?_
  refine TC.condP rfl (fun h1 => ?_) (fun h1 => ?_)
  ·
    have hn : ∀ j, j < l.length → (Wk.rec l j).id ≠ id := by rcases hk with ⟨_, h⟩ | ⟨i, h, _⟩; exact h; omega
    obtain ⟨e1, e2⟩ := Wk.td_none (te := tE) (tw := tW) hn
    refine TC.seq ?_
    refine TC.region ?_
    refine TL.assign rfl rfl ?_
    refine TL.assign rfl rfl ?_
    refine TL.done ?_
    refine Thn.go ?_
    refine TC.ret ?_
    refine Thn.ret ?_
    refine Ends.ret [6, 7] rfl rfl ?_
    exact ⟨_, by rw [e1]; rfl, by rw [e2]; exact World.ownsRow_nil _ _ _ _, hc14⟩
  ·
    obtain ⟨i, rfl, hil, hpi, hpj⟩ : ∃ i : Nat, k = (i : Int) ∧ i < l.length ∧ (Wk.rec l i).id = id ∧ ∀ j, j < i → (Wk.rec l j).id ≠ id := by rcases hk with ⟨h, _⟩ | h; omega; exact h
    obtain ⟨b1, o1, rfl, hce⟩ := recAt (ha.ch0 hc14) hil
    refine TC.skip ?_
    refine Thn.go ?_
    refine TC.seq ?_
    refine TC.region ?_
    refine TL.move rfl rfl ?_
    refine TL.move rfl rfl ?_
    refine TL.move rfl rfl ?_
    refine TL.indexAddr (i) sl22 rfl rfl (by first | rfl | omega) (by omega) rfl ?_
    refine TL.loadAgg (cl (Wk.rec l i)) ag33 rfl rfl (fun j hj => hce j hj) rfl ?_
    refine TL.callVal hf (R := fun v w2 => v = .tuple #[.agg (cl (tW (Wk.rec l i))).toArray, .int .i64 (tE (Wk.rec l i) : Int)] ∧ Ch [] w14 w2) rfl rfl rfl (by simpa using hg (Wk.rec l i) w14 hc14) (fun v23 w23 hr23 => ?_)
    obtain ⟨rfl, hc23⟩ := hr23
    refine TL.move rfl rfl ?_
    refine TL.extract rfl rfl rfl ?_
    refine TL.extract rfl rfl rfl ?_
    refine TL.alloc ze33 rfl (fun w9 hb9 hc9 hz9 => ?_)
    refine TL.store sz33 rfl rfl rfl hb9 (by simp [Value.cells]) (by simpa [Value.cells] using cl_one (tW (Wk.rec l i))) (.inl rfl) (fun ws1 hbs1 hcs1 hzs1 => ?_)
    replace hbs1 : Has ws1 w23.heap.size (cl (tW (Wk.rec l i))).toArray 33 (0, 0) := hbs1.setAll rfl
    have q1 : Ch [] w ws1 := ((hc14.trans0 hc23).trans0 hc9).then1 hcs1 (hc14.trans0 hc23).size
    refine TL.assign rfl rfl ?_
    refine TL.done ?_
    refine Thn.go ?_
    refine TC.seq ?_
    refine TC.seq ?_
    refine TC.region ?_
    refine TL.move rfl rfl ?_
    refine TL.neq rfl rfl rfl ?_
    refine TL.done ?_
    refine Thn.go ?_
    refine TC.condP rfl (fun h2 => ?_) (fun h2 => ?_)
    ·
      obtain ⟨e1, e2⟩ := Wk.td_bad (te := tE) (tw := tW) hil hpi hpj (by omega)
      refine TC.seq ?_
      refine TC.region ?_
      refine TL.move rfl rfl ?_
      refine TL.assign rfl rfl ?_
      refine TL.assign rfl rfl ?_
      refine TL.done ?_
      refine Thn.go ?_
      refine TC.ret ?_
      refine Thn.ret ?_
      refine Ends.ret [6, 7] rfl rfl ?_
      exact ⟨_, by rw [e1]; rfl, by rw [e2]; exact World.ownsRow_nil _ _ _ _, q1⟩
    ·
      obtain ⟨e1, e2⟩ := Wk.td_ok (te := tE) (tw := tW) hil hpi hpj (by omega)
      refine TC.skip ?_
      refine Thn.go ?_
      refine TC.seq ?_
      refine TC.region ?_
      refine TL.move rfl rfl ?_
      refine TL.call can30 rfl rfl (fn30 _ l hl ws1 (ha.ch0 q1)) (fun v30 w30 hr30 => ?_)
      obtain ⟨hv30, hc30⟩ := hr30
      obtain ⟨g2, c2, rfl⟩ := hv30.form (by omega)
      obtain ⟨cur, hcur, hcsz, hcn, _, hgb, _⟩ := hv30.has
      refine TL.assign rfl rfl ?_
      refine TL.done ?_
      refine Thn.go ?_
      refine TC.seq ?_
      refine TC.region ?_
      refine TL.move rfl rfl ?_
      refine TL.move rfl rfl ?_
      refine TL.loadAgg (cl (tW (Wk.rec l i))) ag33 rfl rfl (fun j _ => by rw [(hbs1.ch0 hc30).cell, Nat.zero_add, List.getElem?_toArray]) rfl ?_
      refine TL.indexAddr (i) sl22 rfl rfl (by first | rfl | omega) (by omega) rfl ?_
      refine TL.store sz33 rfl rfl rfl hcur (by rw [hcsz]; have := Nat.mul_le_mul_right 6 (show i + 1 ≤ c2 by omega); omega) (by simpa [Value.cells] using cl_one (tW (Wk.rec l i))) (.inl rfl) (fun ws2 hbs2 hcs2 hzs2 => ?_)
      have hown2 := hv30.setRec cl_len hcur (k := i) (x := tW (Wk.rec l i)) hil hbs2
      refine TL.done ?_
      refine Thn.go ?_
      refine TC.seq ?_
      refine TC.region ?_
      refine TL.move rfl rfl ?_
      refine TL.assign rfl rfl ?_
      refine TL.assign rfl rfl ?_
      refine TL.done ?_
      refine Thn.go ?_
      refine TC.ret ?_
      refine Ends.ret [6, 7] rfl rfl ?_
      exact ⟨_, by rw [e1]; rfl, by rw [e2, List.length_set]; exact hown2.base q1.size, q1.trans0 (hc30.then1 hcs2 hgb)⟩

theorem fn35 (a : Value) (l : List Wk.Work) (id : Int) (u : List UInt8) (g : FuncId) (lb : Array Value) (fr : Nat) (to : UInt8) (o : List UInt8) (ho : o = if to.toNat = 1 then [] else u) (w : World) (ha : Rd w a 6 l.length (l.flatMap cl)) (hf : Callable Try.prog g) (hg : ∀ x w2, Ch [] w w2 → Rets Try.prog g (#[.agg (cl x).toArray] ++ lb) w2 (fun v w3 => v = .tuple #[.agg (cl (Wk.tw x u fr to o)).toArray, .int .i64 (Wk.te x u fr : Int)] ∧ Ch [] w2 w3)) : Rets Try.prog 35 #[a, .int .i64 id, str u, .func (.func g) #[] lb] w (fun v w' => ∃ r, v = .tuple #[r, .int .i64 (Wk.turnE l id u fr : Int)] ∧ Own w' w.heap.size 33 6 r (Wk.turnL l id u fr to).length ((Wk.turnL l id u fr to).flatMap cl) ∧ Ch [] w w') := by
  refine Rets.of (n := 25) (vs := [_, _, _, _]) Try.func35 rfl rfl rfl ?_
  refine TC.seq ?_
  refine TC.region ?_
  refine TL.box rfl rfl (fun w5 hb5 hc5 hz5 => ?_)
  replace hb5 : Has w5 w.heap.size #[.int .i64 id] 3 (0, 0) := hb5
  refine TL.assign rfl rfl ?_
  refine TL.assign rfl rfl ?_
  refine TL.done ?_
  refine Thn.go ?_
  refine TC.seq ?_
  refine TC.seq ?_
  refine TC.region ?_
  refine TL.move rfl rfl ?_
  refine TL.call can25 rfl rfl (fn25 _ l w5 (ha.ch0 hc5)) (fun v12 w12 hr12 => ?_)
  obtain ⟨rfl, hc12⟩ := hr12
  have q12 := hc5.trans0 hc12
  refine TL.assign rfl rfl ?_
  refine TL.done ?_
  refine Thn.go ?_
  refine TC.seq ?_
  refine TC.region ?_
  refine TL.move rfl rfl ?_
  refine TL.neq rfl rfl rfl ?_
  refine TL.done ?_
  refine Thn.go ?_
  refine TC.condP rfl (fun h1 => ?_) (fun h1 => ?_)
  ·
    obtain ⟨e1, e2⟩ := Wk.turn_check (id := id) (u := u) (fr := fr) (to := to) (show Wk.checkE l ≠ 0 by omega)
    refine TC.seq ?_
    refine TC.region ?_
    refine TL.move rfl rfl ?_
    refine TL.assign rfl rfl ?_
    refine TL.assign rfl rfl ?_
    refine TL.done ?_
    refine Thn.go ?_
    refine TC.ret ?_
    refine Thn.ret ?_
    refine Ends.ret [8, 9] rfl rfl ?_
    exact ⟨_, by rw [e1]; rfl, by rw [e2]; exact World.ownsRow_nil _ _ _ _, q12⟩
  ·
    have h0 : Wk.checkE l = 0 := by omega
    obtain ⟨hlen, _⟩ := Wk.check_zero h0
    refine TC.skip ?_
    refine Thn.go ?_
    refine TC.seq ?_
    refine TC.seq ?_
    refine TC.region ?_
    refine TL.move rfl rfl ?_
    refine TL.call can28 rfl rfl (fn28 u w12) (fun v17 w17 hr17 => ?_)
    obtain ⟨rfl, hc17⟩ := hr17
    have q17 := q12.trans0 hc17
    refine TL.notP rfl rfl ?_
    refine TL.done ?_
    refine Thn.go ?_
    refine TC.condP rfl (fun h2 => ?_) (fun h2 => ?_)
    ·
      obtain ⟨e1, e2⟩ := Wk.turn_name (id := id) (u := u) (fr := fr) (to := to) h0 (by assumption)
      refine TC.seq ?_
      refine TC.region ?_
      refine TL.assign rfl rfl ?_
      refine TL.assign rfl rfl ?_
      refine TL.done ?_
      refine Thn.go ?_
      refine TC.ret ?_
      refine Thn.ret ?_
      refine Ends.ret [8, 9] rfl rfl ?_
      exact ⟨_, by rw [e1]; rfl, by rw [e2]; exact World.ownsRow_nil _ _ _ _, q17⟩
    ·
      have hn : Wk.named u := Decidable.not_not.1 (by assumption)
      obtain ⟨e1, e2⟩ := Wk.turn_td (id := id) (u := u) (fr := fr) h0 hn ho
      refine TC.skip ?_
      refine Thn.go ?_
      refine TC.seq ?_
      refine TC.region ?_
      refine TL.move rfl rfl ?_
      refine TL.makeFn (cs := [.tmp 5]) (vs := [_]) rfl rfl ?_
      refine TL.move rfl rfl ?_
      refine TL.call can45 rfl rfl (fn45 _ l w.heap.size id g lb (fun x => Wk.te x u fr) (fun x => Wk.tw x u fr to o) (by omega) w17 (ha.ch0 q17) ((hb5.ch0 hc12).ch0 hc17) hf (fun x w2 h2 => hg x w2 (q17.trans0 h2))) (fun v22 w22 hr22 => ?_)
      obtain ⟨r22, rfl, hv22, hc22⟩ := hr22
      refine TL.extract rfl rfl rfl ?_
      refine TL.extract rfl rfl rfl ?_
      refine TL.assign rfl rfl ?_
      refine TL.assign rfl rfl ?_
      refine TL.done ?_
      refine Thn.go ?_
      refine TC.ret ?_
      refine Ends.ret [8, 9] rfl rfl ?_
      exact ⟨_, by rw [e1]; rfl, by rw [e2]; exact hv22.base q17.size, q17.trans0 hc22⟩

theorem fn17 (a : Value) (l : List Wk.Work) (id : Int) (u : List UInt8) (w : World) (ha : Rd w a 6 l.length (l.flatMap cl)) : Rets Try.prog 17 #[a, .int .i64 id, str u] w (fun v w' => ∃ r, v = .tuple #[r, .int .i64 (Wk.turnE l id u 1 : Int)] ∧ Own w' w.heap.size 33 6 r (Wk.turnL l id u 1 2).length ((Wk.turnL l id u 1 2).flatMap cl) ∧ Ch [] w w') := by
  refine Rets.of (n := 15) (vs := [_, _, _]) Try.func17 rfl rfl rfl ?_
  refine TC.seq ?_
  refine TC.region ?_
  refine TL.box rfl rfl (fun w5 hb5 hc5 hz5 => ?_)
  replace hb5 : Has w5 w.heap.size #[str u] 9 (0, 0) := hb5
  refine TL.assign rfl rfl ?_
  refine TL.assign rfl rfl ?_
  refine TL.done ?_
  refine Thn.go ?_
  refine TC.seq ?_
  refine TC.region ?_
  refine TL.move rfl rfl ?_
  refine TL.move rfl rfl ?_
  refine TL.load pl9 rfl (hb5.cell 0) rfl ?_
  refine TL.makeFn (cs := [.tmp 5]) (vs := [_]) rfl rfl ?_
  refine TL.call can35 rfl rfl (fn35 _ l id u 36 #[.pointer (some ⟨w.heap.size, 0, none⟩)] 1 2 u (by simp) w5 (ha.ch0 hc5) can36 (fun x w2 h2 => by simpa using fn36 x _ u w2 (hb5.ch0 h2))) (fun v12 w12 hr12 => ?_)
  obtain ⟨r12, rfl, hv12, hc12⟩ := hr12
  refine TL.extract rfl rfl rfl ?_
  refine TL.extract rfl rfl rfl ?_
  refine TL.assign rfl rfl ?_
  refine TL.assign rfl rfl ?_
  refine TL.done ?_
  refine Thn.go ?_
  refine TC.ret ?_
  refine Ends.ret [6, 7] rfl rfl ?_
  exact ⟨_, rfl, hv12.base hc5.size, hc5.trans0 hc12⟩

theorem fn38 (a : Value) (l : List Wk.Work) (id : Int) (u : List UInt8) (to : UInt8) (o : List UInt8) (ho : o = if to.toNat = 1 then [] else u) (w : World) (ha : Rd w a 6 l.length (l.flatMap cl)) : Rets Try.prog 38 #[a, .int .i64 id, str u, u8 to, str o] w (fun v w' => ∃ r, v = .tuple #[r, .int .i64 (Wk.turnE l id u 2 : Int)] ∧ Own w' w.heap.size 33 6 r (Wk.turnL l id u 2 to).length ((Wk.turnL l id u 2 to).flatMap cl) ∧ Ch [] w w') := by
  refine Rets.of (n := 19) (vs := [_, _, _, _, _]) Try.func38 rfl rfl rfl ?_
  refine TC.seq ?_
  refine TC.region ?_
  refine TL.box rfl rfl (fun w7 hb7 hc7 hz7 => ?_)
  replace hb7 : Has w7 w.heap.size #[str u] 9 (0, 0) := hb7
  refine TL.box rfl rfl (fun w8 hb8 hc8 hz8 => ?_)
  replace hb8 : Has w8 w7.heap.size #[u8 to] 5 (0, 0) := hb8
  refine TL.box rfl rfl (fun w9 hb9 hc9 hz9 => ?_)
  replace hb9 : Has w9 w8.heap.size #[str o] 9 (0, 0) := hb9
  have q9 := (hc7.trans0 hc8).trans0 hc9
  refine TL.assign rfl rfl ?_
  refine TL.assign rfl rfl ?_
  refine TL.done ?_
  refine Thn.go ?_
  refine TC.seq ?_
  refine TC.region ?_
  refine TL.move rfl rfl ?_
  refine TL.move rfl rfl ?_
  refine TL.load pl9 rfl (((hb7.ch0 hc8).ch0 hc9).cell 0) rfl ?_
  refine TL.makeFn (cs := [.tmp 7, .tmp 8, .tmp 9]) (vs := [_, _, _]) rfl rfl ?_
  refine TL.call can35 rfl rfl (fn35 _ l id u 47 #[.pointer (some ⟨w.heap.size, 0, none⟩), .pointer (some ⟨w7.heap.size, 0, none⟩), .pointer (some ⟨w8.heap.size, 0, none⟩)] 2 to o ho w9 (ha.ch0 q9) can47 (fun x w2 h2 => by simpa using fn47 x _ _ _ u o to w2 (((hb7.ch0 hc8).ch0 hc9).ch0 h2) ((hb8.ch0 hc9).ch0 h2) (hb9.ch0 h2))) (fun v16 w16 hr16 => ?_)
  obtain ⟨r16, rfl, hv16, hc16⟩ := hr16
  refine TL.extract rfl rfl rfl ?_
  refine TL.extract rfl rfl rfl ?_
  refine TL.assign rfl rfl ?_
  refine TL.assign rfl rfl ?_
  refine TL.done ?_
  refine Thn.go ?_
  refine TC.ret ?_
  refine Ends.ret [10, 11] rfl rfl ?_
  exact ⟨_, rfl, hv16.base q9.size, q9.trans0 hc16⟩

theorem fn19 (a : Value) (l : List Wk.Work) (id : Int) (u : List UInt8) (w : World) (ha : Rd w a 6 l.length (l.flatMap cl)) : Rets Try.prog 19 #[a, .int .i64 id, str u] w (fun v w' => ∃ r, v = .tuple #[r, .int .i64 (Wk.turnE l id u 2 : Int)] ∧ Own w' w.heap.size 33 6 r (Wk.turnL l id u 2 1).length ((Wk.turnL l id u 2 1).flatMap cl) ∧ Ch [] w w') := by
  refine Rets.of (n := 14) (vs := [_, _, _]) Try.func19 rfl rfl rfl ?_
  refine TC.seq ?_
  refine TC.region ?_
  refine TL.assign rfl rfl ?_
  refine TL.assign rfl rfl ?_
  refine TL.done ?_
  refine Thn.go ?_
  refine TC.seq ?_
  refine TC.region ?_
  refine TL.move rfl rfl ?_
  refine TL.move rfl rfl ?_
  refine TL.move rfl rfl ?_
  refine TL.call can38 rfl rfl (fn38 _ l id u 1 [] (by simp) w ha) (fun v11 w11 hr11 => ?_)
  obtain ⟨r11, rfl, hv11, hc11⟩ := hr11
  refine TL.extract rfl rfl rfl ?_
  refine TL.extract rfl rfl rfl ?_
  refine TL.assign rfl rfl ?_
  refine TL.assign rfl rfl ?_
  refine TL.done ?_
  refine Thn.go ?_
  refine TC.ret ?_
  refine Ends.ret [6, 7] rfl rfl ?_
  exact ⟨_, rfl, hv11, hc11⟩

theorem fn21 (a : Value) (l : List Wk.Work) (id : Int) (u : List UInt8) (w : World) (ha : Rd w a 6 l.length (l.flatMap cl)) : Rets Try.prog 21 #[a, .int .i64 id, str u] w (fun v w' => ∃ r, v = .tuple #[r, .int .i64 (Wk.turnE l id u 2 : Int)] ∧ Own w' w.heap.size 33 6 r (Wk.turnL l id u 2 3).length ((Wk.turnL l id u 2 3).flatMap cl) ∧ Ch [] w w') := by
  refine Rets.of (n := 15) (vs := [_, _, _]) Try.func21 rfl rfl rfl ?_
  refine TC.seq ?_
  refine TC.region ?_
  refine TL.assign rfl rfl ?_
  refine TL.assign rfl rfl ?_
  refine TL.done ?_
  refine Thn.go ?_
  refine TC.seq ?_
  refine TC.region ?_
  refine TL.move rfl rfl ?_
  refine TL.move rfl rfl ?_
  refine TL.move rfl rfl ?_
  refine TL.move rfl rfl ?_
  refine TL.call can38 rfl rfl (fn38 _ l id u 3 u (by simp) w ha) (fun v12 w12 hr12 => ?_)
  obtain ⟨r12, rfl, hv12, hc12⟩ := hr12
  refine TL.extract rfl rfl rfl ?_
  refine TL.extract rfl rfl rfl ?_
  refine TL.assign rfl rfl ?_
  refine TL.assign rfl rfl ?_
  refine TL.done ?_
  refine Thn.go ?_
  refine TC.ret ?_
  refine Ends.ret [6, 7] rfl rfl ?_
  exact ⟨_, rfl, hv12, hc12⟩

