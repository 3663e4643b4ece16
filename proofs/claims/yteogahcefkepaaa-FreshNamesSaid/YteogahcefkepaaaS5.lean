/-
  Walks through the given program: each theorem fnN says what the call of function N of the translation hands back, for all arguments that its premises describe, and that nothing that was there has turned.
-/
import Derived.Test.YteogahcefkepaaaS4
import Derived.Test.YteogahcefkepaaaFr2
namespace Go.Proofs.Yteogahcefkepaaa
open Go.Lane
theorem can10 : Callable Try.prog 10 := ⟨Try.f10, Try.func10, by kernel_rfl, rfl⟩
theorem can12 : Callable Try.prog 12 := ⟨Try.f12, Try.func12, by kernel_rfl, rfl⟩
theorem can14 : Callable Try.prog 14 := ⟨Try.f14, Try.func14, by kernel_rfl, rfl⟩
theorem can20 : Callable Try.prog 20 := ⟨Try.f20, Try.func20, by kernel_rfl, rfl⟩
theorem can21 : Callable Try.prog 21 := ⟨Try.f21, Try.func21, by kernel_rfl, rfl⟩
theorem can9 : Callable Try.prog 9 := ⟨Try.f9, Try.func9, by kernel_rfl, rfl⟩
/-- What is neither in a row's blocks nor to come. -/
def Off (v : Value) (F : List Nat) (w : World) : Prop := ∀ b, v.ownBlock = some b → b ∉ F ∧ b < w.heap.size
theorem Off.nil (F : List Nat) (w : World) : Off (.slice none 0 0) F w := fun b h => by simp [Value.ownBlock] at h
theorem fn10s (Q : Nat) (hd : Nd) (N : List Nd) (R : List En.Entry) (x : En.Entry) (he : exs N = R) (hc : En.checkE R = 0) (w : World) (hSk : Sk w Q hd N) : Rets Try.prog 10 #[.pointer (some ⟨Q, 0, none⟩), .agg (cl x).toArray] w (fun r w' => r = .int .i64 (En.putE R x : Int) ∧ (∃ N', Sk w' Q hd N' ∧ exs N' = En.stepL R x ∧ ∀ b ∈ feet N', b ∈ feet N ∨ w.heap.size ≤ b) ∧ Ch (Q :: feet (hd :: N)) w w') := by
  subst he
  exact fn10 Q hd N x hc w hSk
/-- What is off a row stays off it, whatever is put. -/
theorem Off.put {v : Value} {Q : Nat} {hd : Nd} {N N' : List Nd} {w w' : World} (h : Off v (Q :: feet (hd :: N)) w) (hz : w.heap.size ≤ w'.heap.size) (hf : ∀ b ∈ feet N', b ∈ feet N ∨ w.heap.size ≤ b) : Off v (Q :: feet (hd :: N')) w' := fun b hb => by
  obtain ⟨h1, h2⟩ := h b hb
  refine ⟨fun hm => ?_, by omega⟩
  have e : ∀ M : List Nd, feet (hd :: M) = hd.p :: hd.m :: feet M := fun M => rfl
  rw [e] at h1 hm
  simp only [List.mem_cons, not_or] at h1 hm
  rcases hm with hm | hm | hm | hm
  · exact h1.1 hm
  · exact h1.2.1 hm
  · exact h1.2.2.1 hm
  · rcases hf b hm with h3 | h3
    · exact h1.2.2.2 h3
    · omega
theorem Off.ch0 {v : Value} {F : List Nat} {w w' : World} (h : Off v F w) (hc : Ch [] w w') : Off v F w' := fun b hb => ⟨(h b hb).1, by have := (h b hb).2; have := hc.size; omega⟩
/-- A new row is off what was there. -/
theorem Off.own {w w' : World} {v : Value} {t : TypeId} {sz m : Nat} {cs : List Value} {Q : Nat} {hd : Nd} {N : List Nd} (h : Own w' w.heap.size t sz v m cs) (hSk : Sk w Q hd N) : Off v (Q :: feet (hd :: N)) w' := fun b hb => ⟨fun hm => by have := hSk.lt b hm; have := h.ge b hb; omega, h.lt b hb⟩

theorem fn8 (av : Value) (l : List En.Entry) (k : List UInt8) (q : Int) (w : World) (ha : Rd w av 4 l.length (l.flatMap cl)) : Rets Try.prog 8 #[av, str k, .int .i64 q] w (fun r w' => r = .bool true ∧ Ch [] w w') := by
  obtain ⟨ad, c, rfl, _⟩ := ha.shape
  have hmm : maxLen = 9223372036854775807 := rfl
  refine Rets.of (n := 101) (vs := [_, _, _]) Try.func8 rfl rfl rfl ?_
  refine TC.seq ?_
  refine TC.region ?_
  refine TL.assign rfl rfl ?_
  refine TL.done ?_
  refine Thn.go ?_
  refine TC.seq ?_
  refine TC.region ?_
  refine TL.call can20 rfl rfl (fn20 w) (fun v21 w21 hr21 => ?_)
  obtain ⟨rfl, hc21⟩ := hr21
  refine TL.assign rfl rfl ?_
  refine TL.done ?_
  refine Thn.go ?_
  refine TC.seq ?_
  refine TC.seq ?_
  refine TC.region ?_
  refine TL.move rfl rfl ?_
  refine TL.not rfl rfl ?_
  refine TL.done ?_
  refine Thn.go ?_
  refine TC.condF rfl rfl ?_
  refine TC.skip ?_
  refine Thn.go ?_
  refine TC.seq ?_
  refine TC.seq ?_
  refine TC.region ?_
  refine TL.move rfl rfl ?_
  refine TL.lenSlice Try.underlying22 rfl rfl ?_
  refine TL.gtr rfl rfl rfl ?_
  refine TL.done ?_
  refine Thn.go ?_
  refine TC.condP rfl (fun h2 => ?_) (fun h2 => ?_)
  ·
    refine TC.seq ?_
    refine TC.region ?_
    refine TL.move rfl rfl ?_
    refine TL.assign rfl rfl ?_
    refine TL.done ?_
    refine Thn.go ?_
    refine TC.ret ?_
    refine Thn.ret ?_
    refine Ends.ret [6] rfl rfl ?_
    exact ⟨rfl, hc21⟩
  ·
    have hl200 : l.length ≤ 200 := by omega
    refine TC.skip ?_
    refine Thn.go ?_
    refine TC.seq ?_
    refine TC.region ?_
    refine TL.call can9 rfl rfl (fn9 w21) (fun v28 w28 hr28 => ?_)
    obtain ⟨Q, hd, rfl, hSk0, hge0, hc28⟩ := hr28
    have q28 := hc21.trans0 hc28
    have hQ : ∀ b ∈ Q :: feet [hd], w.heap.size ≤ b := fun b hb => by have := hge0 b hb; have := hc21.size; omega
    refine TL.assign rfl rfl ?_
    refine TL.done ?_
    refine Thn.go ?_
    refine TC.seq ?_
    refine TC.region ?_
    refine TL.assign rfl rfl ?_
    refine TL.done ?_
    refine Thn.go ?_
    refine TC.seq ?_
    refine TC.seq ?_
    refine TC.region ?_
    refine TL.assign rfl rfl ?_
    refine TL.done ?_
    refine Thn.go ?_
    refine TC.block ?_
    refine TC.loop2 (fun (i : Nat) (ov : Value) => [(0, .slice ad l.length c), (1, str k), (2, .int .i64 q), (7, .bool true), (8, .pointer (some ⟨Q, 0, none⟩)), (9, ov), (10, .int .i64 (i : Int))]) (fun i ov w' => i ≤ l.length ∧ (∃ N, Sk w' Q hd N ∧ exs N = En.rowL (l.take i) ∧ (∀ b ∈ feet (hd :: N), w.heap.size ≤ b) ∧ Off ov (Q :: feet (hd :: N)) w') ∧ Rd w' ov 4 (En.rowL (l.take i)).length ((En.rowL (l.take i)).flatMap cl) ∧ Ch [] w w') (fun i _ => l.length - i) 0 (.slice none 0 0) (by repeat (first | exact trivial | refine ⟨rfl, ?_⟩)) (⟨by omega, ⟨[], hSk0, rfl, fun b hb => hQ b (List.mem_cons_of_mem _ hb), Off.nil _ _⟩, Rd.nil _ 4, q28⟩) (fun i ov w' hI => ?_)
    obtain ⟨hi, ⟨N, hSk, hN, hbg, hoff⟩, hrd, hch⟩ := hI
    obtain ⟨R, hR⟩ : ∃ R, En.rowL (l.take i) = R := ⟨_, rfl⟩
    have hRc : En.checkE R = 0 := by rw [← hR]; exact En.row_check _
    rw [hR] at hN hrd
    refine TC.seq ?_
    refine TC.seq ?_
    refine TC.region ?_
    refine TL.move rfl rfl ?_
    refine TL.move rfl rfl ?_
    refine TL.lenSlice Try.underlying22 rfl rfl ?_
    refine TL.lss rfl rfl rfl ?_
    refine TL.done ?_
    refine Thn.go ?_
    refine TC.condP rfl (fun h3 => ?_) (fun h3 => ?_)
    ·
      have hil : i < l.length := by omega
      obtain ⟨b1, o1, rfl, hall⟩ := recIn ha hil
      have hnx := En.row_next hil
      rw [hR] at hnx
      obtain ⟨x, hx⟩ : ∃ x, En.rec l i = x := ⟨_, rfl⟩
      rw [hx] at hall hnx
      refine TC.skip ?_
      refine Thn.go ?_
      refine TC.seq ?_
      refine TC.block ?_
      refine TC.seq ?_
      refine TC.region ?_
      refine TL.move rfl rfl ?_
      refine TL.move rfl rfl ?_
      refine TL.move rfl rfl ?_
      refine TL.indexAddr (i) sl22 rfl rfl (by first | rfl | omega) (by omega) rfl ?_
      refine TL.loadAgg (cl x) ag30 rfl rfl (fun j hj => hall _ hch j hj) rfl ?_
      refine TL.call can16 rfl rfl (fn16 ov R x w' hrd) (fun v41 w41 hr41 => ?_)
      obtain ⟨o41, rfl, hv41, hc41⟩ := hr41
      refine TL.move rfl rfl ?_
      refine TL.extract rfl rfl rfl ?_
      refine TL.extract rfl rfl rfl ?_
      refine TL.assign rfl rfl ?_
      refine TL.assign rfl rfl ?_
      refine TL.done ?_
      refine Thn.go ?_
      refine TC.seq ?_
      refine TC.seq ?_
      refine TC.region ?_
      refine TL.move rfl rfl ?_
      refine TL.move rfl rfl ?_
      refine TL.move rfl rfl ?_
      refine TL.indexAddr (i) sl22 rfl rfl (by first | rfl | omega) (by omega) rfl ?_
      refine TL.loadAgg (cl x) ag30 rfl rfl (fun j hj => hall _ (hch.trans0 hc41) j hj) rfl ?_
      refine TL.call can10 rfl rfl (fn10s Q hd N R x hN hRc w41 (hSk.ch0 hc41)) (fun v49 w49 hr49 => ?_)
      obtain ⟨rfl, ⟨N2, hSk2, hN2, hft2⟩, hc49⟩ := hr49
      have hFge : ∀ x ∈ Q :: feet (hd :: N), w.heap.size ≤ x := fun b hb => by rcases List.mem_cons.1 hb with h | h; rw [h]; exact hQ Q (by simp); exact hbg b h
      have q49 : Ch [] w w49 := (hch.trans0 hc41).thenS hc49 hFge
      have hoff2 := (hoff.ch0 hc41).put hc49.size hft2
      have hoff3 := (Off.own hv41 hSk).put hc49.size hft2
      have hbg2 : ∀ b ∈ feet (hd :: N2), w.heap.size ≤ b := fun b hb => by
        have e : feet (hd :: N2) = hd.p :: hd.m :: feet N2 := rfl
        rw [e] at hb
        rcases List.mem_cons.1 hb with h | h
        · rw [h]; exact hQ _ (by simp [feet])
        · rcases List.mem_cons.1 h with h | h
          · rw [h]; exact hQ _ (by simp [feet])
          · rcases hft2 b h with h | h
            · exact hbg b (by rw [show feet (hd :: N) = hd.p :: hd.m :: feet N from rfl]; simp [h])
            · have := hch.size; have := hc41.size; omega
      have hrd2 := (hrd.ch0 hc41).ch hc49 (fun b hb => ((hoff.ch0 hc41) b hb).1)
      have hrd3 := (Rd.ofOwn hv41).ch hc49 (fun b hb => ((Off.own hv41 hSk) b hb).1)
      refine TL.move rfl rfl ?_
      refine TL.neq rfl rfl rfl ?_
      refine TL.done ?_
      refine Thn.go ?_
      refine TC.condP rfl (fun h4 => ?_) (fun h4 => ?_)
      ·
        refine TC.seq ?_
        refine TC.region ?_
        refine TL.assign rfl rfl ?_
        refine TL.done ?_
        refine Thn.go ?_
        refine TC.ret ?_
        refine Thn.ret ?_
        refine Blk.ret ?_
        refine Thn.ret ?_
        refine Lp.ret ?_
        refine Blk.ret ?_
        refine Thn.ret ?_
        refine Ends.ret [6] rfl rfl ?_
        exact absurd rfl (by assumption)
      ·
        refine TC.skip ?_
        refine Thn.go ?_
        refine TC.seq ?_
        refine TC.region ?_
        refine TL.move rfl rfl ?_
        refine TL.eql rfl rfl rfl ?_
        refine TL.done ?_
        refine Thn.go ?_
        refine TC.condP rfl (fun h5 => ?_) (fun h5 => ?_)
        ·
          have h0 : En.putE R x = 0 := by omega
          refine TC.region ?_
          refine TL.move rfl rfl ?_
          refine TL.assign rfl rfl ?_
          refine TL.done ?_
          refine Blk.go ?_
          refine Thn.go ?_
          refine TC.region ?_
          refine TL.move rfl rfl ?_
          refine TL.add_i64 rfl rfl (by omega) (by omega) rfl ?_
          refine TL.assign rfl rfl ?_
          refine TL.done ?_
          refine Lp.go ((i + 1, o41)) (by repeat (first | exact trivial | refine ⟨rfl, ?_⟩)) ?_ (by first | omega | (dsimp only; omega))
          exact ⟨by show i + 1 ≤ l.length; omega, ⟨N2, hSk2, by rw [hN2, hnx], hbg2, hoff3⟩, by show Rd _ o41 4 (En.rowL (l.take (i + 1))).length _; rw [hnx, En.stepL, if_pos h0]; exact hrd3, q49⟩
        ·
          have h0 : ¬ En.putE R x = 0 := by omega
          refine TC.skip ?_
          refine Blk.go ?_
          refine Thn.go ?_
          refine TC.region ?_
          refine TL.move rfl rfl ?_
          refine TL.add_i64 rfl rfl (by omega) (by omega) rfl ?_
          refine TL.assign rfl rfl ?_
          refine TL.done ?_
          refine Lp.go ((i + 1, ov)) (by repeat (first | exact trivial | refine ⟨rfl, ?_⟩)) ?_ (by first | omega | (dsimp only; omega))
          exact ⟨by show i + 1 ≤ l.length; omega, ⟨N2, hSk2, by rw [hN2, hnx], hbg2, hoff2⟩, by show Rd _ ov 4 (En.rowL (l.take (i + 1))).length _; rw [hnx, En.stepL, if_neg h0]; exact hrd2, q49⟩
    ·
      have hil : i = l.length := by omega
      have hRl : R.length ≤ 200 := by have := En.row_len (l.take i); rw [hR, List.length_take] at this; omega
      have hNl : N.length ≤ 100000 := by rw [← exs_len, hN]; omega
      refine TC.exit ?_
      refine Thn.exit ?_
      refine Lp.exit ?_
      refine Blk.hit ?_
      refine Thn.go ?_
      refine TC.seq ?_
      refine TC.region ?_
      refine TL.move rfl rfl ?_
      refine TL.call can14 rfl rfl (fn14 Q hd N hNl w' hSk) (fun v57 w57 hr57 => ?_)
      rw [hN] at hr57
      obtain ⟨o57, rfl, hv57, hc57⟩ := hr57
      refine TL.move rfl rfl ?_
      refine TL.extract rfl rfl rfl ?_
      refine TL.extract rfl rfl rfl ?_
      refine TL.assign rfl rfl ?_
      refine TL.assign rfl rfl ?_
      refine TL.done ?_
      refine Thn.go ?_
      refine TC.seq ?_
      refine TC.region ?_
      refine TL.move rfl rfl ?_
      refine TL.move rfl rfl ?_
      refine TL.move rfl rfl ?_
      refine TL.call can12 rfl rfl (fn12 Q hd N k q (by rw [hN]; exact hRc) w57 (hSk.ch0 hc57)) (fun v64 w64 hr64 => ?_)
      rw [hN] at hr64
      obtain ⟨rfl, hc64⟩ := hr64
      obtain ⟨y, hy⟩ : ∃ y, (En.findX R k q).getD e0 = y := ⟨_, rfl⟩
      rw [hy]
      refine TL.move rfl rfl ?_
      refine TL.extract rfl rfl rfl ?_
      refine TL.extract rfl rfl rfl ?_
      refine TL.extract rfl rfl rfl ?_
      refine TL.alloc ze30 rfl (fun w15 hb15 hc15 hz15 => ?_)
      refine TL.store sz30 rfl rfl rfl hb15 (by simp [Value.cells]) (by simpa [Value.cells] using cl_one y) (.inl rfl) (fun ws1 hbs1 hcs1 hzs1 => ?_)
      replace hbs1 : Has ws1 w64.heap.size (cl y).toArray 30 (0, 0) := hbs1.setAll rfl
      have k15 : Ch [] w57 ws1 := hc64.trans0 (hc15.then1 hcs1 (Nat.le_refl _))
      refine TL.assign rfl rfl ?_
      refine TL.assign rfl rfl ?_
      refine TL.done ?_
      refine Thn.go ?_
      refine TC.seq ?_
      refine TC.region ?_
      refine TL.move rfl rfl ?_
      refine TL.move rfl rfl ?_
      refine TL.move rfl rfl ?_
      refine TL.call can17 rfl rfl (fn17 ov R k q ws1 (hrd.ch0 (hc57.trans0 k15))) (fun v72 w72 hr72 => ?_)
      rw [hy] at hr72
      obtain ⟨rfl, hc72⟩ := hr72
      refine TL.move rfl rfl ?_
      refine TL.extract rfl rfl rfl ?_
      refine TL.extract rfl rfl rfl ?_
      refine TL.extract rfl rfl rfl ?_
      refine TL.alloc ze30 rfl (fun w18 hb18 hc18 hz18 => ?_)
      refine TL.store sz30 rfl rfl rfl hb18 (by simp [Value.cells]) (by simpa [Value.cells] using cl_one y) (.inl rfl) (fun ws2 hbs2 hcs2 hzs2 => ?_)
      replace hbs2 : Has ws2 w72.heap.size (cl y).toArray 30 (0, 0) := hbs2.setAll rfl
      have j18 : Ch [] w72 ws2 := hc18.then1 hcs2 (Nat.le_refl _)
      have k18 : Ch [] w57 ws2 := k15.trans0 (hc72.trans0 j18)
      refine TL.assign rfl rfl ?_
      refine TL.assign rfl rfl ?_
      refine TL.done ?_
      refine Thn.go ?_
      refine TC.seq ?_
      refine TC.region ?_
      refine TL.move rfl rfl ?_
      refine TL.move rfl rfl ?_
      refine TL.guardYes (d := 77) rfl rfl rfl ?_
      refine TL.move rfl rfl ?_
      refine TL.guardYes (d := 77) rfl rfl rfl ?_
      refine TL.eql rfl rfl rfl ?_
      refine TL.yes (rfl) ?_
      refine TL.pickT rfl rfl rfl rfl ?_
      refine TL.move rfl rfl ?_
      refine TL.guardYes (d := 81) rfl rfl rfl ?_
      refine TL.move rfl rfl ?_
      refine TL.guardYes (d := 81) rfl rfl rfl ?_
      refine TL.move rfl rfl ?_
      refine TL.guardYes (d := 81) rfl rfl rfl ?_
      refine TL.call can21 rfl rfl (fn21 _ _ R R ws2 (Rd.ofOwn (hv57.ch0 k18)) (hrd.ch0 (hc57.trans0 k18))) (fun v84 w84 hr84 => ?_)
      obtain ⟨rfl, hc84⟩ := hr84
      refine TL.yes (rfl) ?_
      refine TL.pickT rfl rfl rfl rfl ?_
      refine TL.move rfl rfl ?_
      refine TL.guardYes (d := 86) rfl rfl rfl ?_
      refine TL.loadAgg (cl y) ag30 rfl rfl (fun j _ => by rw [((hbs1.ch0 (hc72.trans0 j18)).ch0 hc84).cell, Nat.zero_add, List.getElem?_toArray]) rfl ?_
      refine TL.guardYes (d := 86) rfl rfl rfl ?_
      refine TL.loadAgg (cl y) ag30 rfl rfl (fun j _ => by rw [(hbs2.ch0 hc84).cell, Nat.zero_add, List.getElem?_toArray]) rfl ?_
      refine TL.guardYes (d := 86) rfl rfl rfl ?_
      refine TL.eqlAgg gd30 (eqEntry y y _) rfl rfl rfl ?_
      refine TL.yes (rfl) ?_
      refine TL.pickT rfl rfl rfl rfl ?_
      refine TL.move rfl rfl ?_
      refine TL.guardYes (d := 91) rfl rfl rfl ?_
      refine TL.move rfl rfl ?_
      refine TL.guardYes (d := 91) rfl rfl rfl ?_
      refine TL.move rfl rfl ?_
      refine TL.guardYes (d := 91) rfl rfl rfl ?_
      refine TL.eqlBool Try.underlying4 rfl rfl rfl ?_
      refine TL.yes (rfl) ?_
      refine TL.pickT rfl rfl rfl rfl ?_
      refine TL.move rfl rfl ?_
      refine TL.guardYes (d := 96) rfl rfl rfl ?_
      refine TL.move rfl rfl ?_
      refine TL.guardYes (d := 96) rfl rfl rfl ?_
      refine TL.move rfl rfl ?_
      refine TL.guardYes (d := 96) rfl rfl rfl ?_
      refine TL.eql rfl rfl rfl ?_
      refine TL.yes (rfl) ?_
      refine TL.pickT rfl rfl rfl rfl ?_
      refine TL.assign rfl rfl ?_
      refine TL.done ?_
      refine Thn.go ?_
      refine TC.ret ?_
      refine Ends.ret [6] rfl rfl ?_
      exact ⟨by first | rfl | (simp; rfl), hch.trans0 (hc57.trans0 (k18.trans0 hc84))⟩

