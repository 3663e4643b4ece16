/-
  Walks through the given program: each theorem fnN says what the call of function N of the translation hands back, for all arguments that its premises describe, and that nothing that was there has turned.
-/
import Derived.Test.YteogahcefkepaaaS7
namespace Go.Proofs.Yteogahcefkepaaa
open Go.Lane
theorem sl23 : SliceT Try.prog 23 9 1 16 (.string ⟨#[]⟩) := SliceT.mk' Try.underlying23 (by kernel_rfl) rfl rfl
section
open Go.ChangeShapes Go.WideShapes Go.RowKit Go.Deep
variable {H : Type} {enc : TypeId × Value → H} {w : World} {held : Bool}
theorem key_in {m : Nat} {cs : List Value} {y : DataW H × List MemPlace} (h : DataW.trod enc Try.prog w 0 (fun _ => true) held m 9 cs = some y) : ∃ s : List UInt8, cs = [str s] := by
  match cs, h with
  | [v], h =>
    obtain ⟨s, rfl⟩ := trod_strv Try.underlying9 h
    exact ⟨s.data.toList, rfl⟩
  | [], h => cases m with
    | zero => simp [DataW.trod] at h
    | succ m => unfold DataW.trod at h; rw [Try.underlying9] at h; simp at h
  | v :: u :: r, h => cases m with
    | zero => simp [DataW.trod] at h
    | succ m => unfold DataW.trod at h; rw [Try.underlying9] at h; simp at h
theorem num_in {m : Nat} {cs : List Value} {y : DataW H × List MemPlace} (h : DataW.trod enc Try.prog w 0 (fun _ => true) held m 3 cs = some y) : ∃ a : Int, cs = [.int .i64 a] := by
  match cs, h with
  | [v], h =>
    obtain ⟨a, rfl, _⟩ := trod_intv Try.underlying3 h
    exact ⟨a, rfl⟩
  | [], h => cases m with
    | zero => simp [DataW.trod] at h
    | succ m => unfold DataW.trod at h; rw [Try.underlying3] at h; simp at h
  | v :: u :: r, h => cases m with
    | zero => simp [DataW.trod] at h
    | succ m => unfold DataW.trod at h; rw [Try.underlying3] at h; simp at h
theorem keys_of {v : Value} {d : DataW H} {ps : List MemPlace} {r : Reach} {b0 : Nat} (hval : Value.okWide Try.prog w r b0 23 v) (hd : DataW.Trod enc Try.prog w 0 (fun _ => true) held 23 v d ps) : ∃ l : List (List UInt8), Rd w v 1 l.length (l.map str) := by
  obtain ⟨l, h⟩ := slice_of (fun s : List UInt8 => [str s]) Try.underlying23 (by kernel_rfl) (by decide) (fun _ => rfl) (fun _ _ _ h => key_in h) hval hd
  exact ⟨l, by rwa [List.map_eq_flatMap]⟩
theorem nums_of {v : Value} {d : DataW H} {ps : List MemPlace} {r : Reach} {b0 : Nat} (hval : Value.okWide Try.prog w r b0 24 v) (hd : DataW.Trod enc Try.prog w 0 (fun _ => true) held 24 v d ps) : ∃ l : List Int, Rd w v 1 l.length (l.map (.int .i64)) := by
  obtain ⟨l, h⟩ := slice_of (fun a : Int => [Value.int .i64 a]) Try.underlying24 (by kernel_rfl) (by decide) (fun _ => rfl) (fun _ _ _ h => num_in h) hval hd
  exact ⟨l, by rwa [List.map_eq_flatMap]⟩
end

theorem fn3 (av : Value) (l : List En.Entry) (kv : Value) (ks : List (List UInt8)) (qv : Value) (qs : List Int) (w : World) (ha : Rd w av 4 l.length (l.flatMap cl)) (hk : Rd w kv 1 ks.length (ks.map str)) (hq : Rd w qv 1 qs.length (qs.map (.int .i64))) : Rets Try.prog 3 #[av, kv, qv] w (fun r w' => r = .bool true ∧ Ch [] w w') := by
  obtain ⟨ad, c, rfl, _⟩ := ha.shape
  obtain ⟨kd, kc, rfl, _⟩ := hk.shape
  obtain ⟨qd, qc, rfl, _⟩ := hq.shape
  have hmm : maxLen = 9223372036854775807 := rfl
  refine Rets.of (n := 141) (vs := [_, _, _]) Try.func3 rfl rfl rfl ?_
  refine TC.seq ?_
  refine TC.region ?_
  refine TL.assign rfl rfl ?_
  refine TL.done ?_
  refine Thn.go ?_
  refine TC.seq ?_
  refine TC.seq ?_
  refine TC.region ?_
  refine TL.move rfl rfl ?_
  refine TL.lenSlice Try.underlying22 rfl rfl ?_
  refine TL.gtr rfl rfl rfl ?_
  refine TL.done ?_
  refine Thn.go ?_
  refine TC.condP rfl (fun h1 => ?_) (fun h1 => ?_)
  ·
    refine TC.seq ?_
    refine TC.region ?_
    refine TL.assign rfl rfl ?_
    refine TL.done ?_
    refine Thn.go ?_
    refine TC.ret ?_
    refine Thn.ret ?_
    refine Ends.ret [6] rfl rfl ?_
    exact ⟨rfl, Ch.refl _ _⟩
  ·
    have hl200 : l.length ≤ 200 := by omega
    refine TC.skip ?_
    refine Thn.go ?_
    refine TC.seq ?_
    refine TC.region ?_
    refine TL.call can9 rfl rfl (fn9 w) (fun v27 w27 hr27 => ?_)
    obtain ⟨Q, hd, rfl, hSk0, hQ, hc27⟩ := hr27
    refine TL.assign rfl rfl ?_
    refine TL.done ?_
    refine Thn.go ?_
    refine TC.seq ?_
    refine TC.region ?_
    refine TL.assign rfl rfl ?_
    refine TL.done ?_
    refine Thn.go ?_
    refine TC.seq ?_
    refine TC.seq ?_
    refine TC.region ?_
    refine TL.assign rfl rfl ?_
    refine TL.done ?_
    refine Thn.go ?_
    refine TC.block ?_
    refine TC.loop2 (fun (i : Nat) (ov : Value) => [(0, .slice ad l.length c), (1, .slice kd ks.length kc), (2, .slice qd qs.length qc), (7, .pointer (some ⟨Q, 0, none⟩)), (8, ov), (9, .int .i64 (i : Int))]) (fun i ov w' => i ≤ l.length ∧ (∃ N, Sk w' Q hd N ∧ exs N = En.rowL (l.take i) ∧ (∀ b ∈ Q :: feet (hd :: N), w.heap.size ≤ b) ∧ Off ov (Q :: feet (hd :: N)) w') ∧ Rd w' ov 4 (En.rowL (l.take i)).length ((En.rowL (l.take i)).flatMap cl) ∧ Ch [] w w') (fun i _ => l.length - i) 0 (.slice none 0 0) (by repeat (first | exact trivial | refine ⟨rfl, ?_⟩)) (⟨by omega, ⟨[], hSk0, rfl, hQ, Off.nil _ _⟩, Rd.nil _ 4, hc27⟩) (fun i ov w' hI => ?_)
    obtain ⟨hi, ⟨N, hSk, hN, hbg, hoff⟩, hrd, hch⟩ := hI
    obtain ⟨R, hR⟩ : ∃ R, En.rowL (l.take i) = R := ⟨_, rfl⟩
    have hRc : En.checkE R = 0 := by rw [← hR]; exact En.row_check _
    have hRl : R.length ≤ 200 := by have := En.row_len (l.take i); rw [hR, List.length_take] at this; omega
    rw [hR] at hN hrd
    refine TC.seq ?_
    refine TC.seq ?_
    refine TC.region ?_
    refine TL.move rfl rfl ?_
    refine TL.move rfl rfl ?_
    refine TL.lenSlice Try.underlying22 rfl rfl ?_
    refine TL.lss rfl rfl rfl ?_
    refine TL.done ?_
    refine Thn.go ?_
    refine TC.condP rfl (fun h2 => ?_) (fun h2 => ?_)
    ·
      have hil : i < l.length := by omega
      obtain ⟨b1, o1, rfl, hall⟩ := recIn ha hil
      have hnx := En.row_next hil
      rw [hR] at hnx
      obtain ⟨x, hx⟩ : ∃ x, En.rec l i = x := ⟨_, rfl⟩
      rw [hx] at hall hnx
      refine TC.skip ?_
      refine Thn.go ?_
      refine TC.seq ?_
      refine TC.block ?_
      refine TC.seq ?_
      refine TC.region ?_
      refine TL.move rfl rfl ?_
      refine TL.move rfl rfl ?_
      refine TL.move rfl rfl ?_
      refine TL.indexAddr (i) sl22 rfl rfl (by first | rfl | omega) (by omega) rfl ?_
      refine TL.loadAgg (cl x) ag30 rfl rfl (fun j hj => hall _ hch j hj) rfl ?_
      refine TL.call can10 rfl rfl (fn10s Q hd N R x hN hRc w' hSk) (fun v39 w39 hr39 => ?_)
      obtain ⟨rfl, ⟨N2, hSk2, hN2, hft2⟩, hc39⟩ := hr39
      have q39 : Ch [] w w39 := hch.thenS hc39 hbg
      have hoff2 := hoff.put hc39.size hft2
      have hbg2 : ∀ b ∈ Q :: feet (hd :: N2), w.heap.size ≤ b := fun b hb => by
        rcases feet_put hft2 b hb with h | h
        · exact hbg b h
        · have := hch.size; omega
      have hrd2 := hrd.ch hc39 (fun b hb => (hoff b hb).1)
      refine TL.assign rfl rfl ?_
      refine TL.done ?_
      refine Thn.go ?_
      refine TC.seq ?_
      refine TC.region ?_
      refine TL.move rfl rfl ?_
      refine TL.move rfl rfl ?_
      refine TL.move rfl rfl ?_
      refine TL.indexAddr (i) sl22 rfl rfl (by first | rfl | omega) (by omega) rfl ?_
      refine TL.loadAgg (cl x) ag30 rfl rfl (fun j hj => hall _ q39 j hj) rfl ?_
      refine TL.call can11 rfl rfl (fn11 ov R x w39 (by omega) hrd2) (fun v46 w46 hr46 => ?_)
      obtain ⟨o46, rfl, hv46, hc46⟩ := hr46
      have q46 := q39.trans0 hc46
      have hoff3 := Off.own hv46 hSk2
      refine TL.move rfl rfl ?_
      refine TL.extract rfl rfl rfl ?_
      refine TL.extract rfl rfl rfl ?_
      refine TL.assign rfl rfl ?_
      refine TL.assign rfl rfl ?_
      refine TL.done ?_
      refine Thn.go ?_
      refine TC.seq ?_
      refine TC.seq ?_
      refine TC.region ?_
      refine TL.move rfl rfl ?_
      refine TL.move rfl rfl ?_
      refine TL.neq rfl rfl rfl ?_
      refine TL.done ?_
      refine Thn.go ?_
      refine TC.condP rfl (fun h3 => ?_) (fun h3 => ?_)
      ·
        refine TC.seq ?_
        refine TC.region ?_
        refine TL.assign rfl rfl ?_
        refine TL.done ?_
        refine Thn.go ?_
        refine TC.ret ?_
        refine Thn.ret ?_
        refine Blk.ret ?_
        refine Thn.ret ?_
        refine Lp.ret ?_
        refine Blk.ret ?_
        refine Thn.ret ?_
        refine Ends.ret [6] rfl rfl ?_
        exact absurd rfl (by assumption)
      ·
        refine TC.skip ?_
        refine Thn.go ?_
        refine TC.cut1 (fun (nv : Value) => [(0, .slice (some ⟨b1, o1, none⟩) l.length c), (1, .slice kd ks.length kc), (2, .slice qd qs.length qc), (7, .pointer (some ⟨Q, 0, none⟩)), (8, nv), (9, .int .i64 (i : Int))]) (fun nv w5 => Sk w5 Q hd N2 ∧ Off nv (Q :: feet (hd :: N2)) w5 ∧ Rd w5 nv 4 (En.stepL R x).length ((En.stepL R x).flatMap cl) ∧ Ch [] w w5) (fun K4 hK4 => ?_) (fun nv w5 hH => ?_)
        ·
          refine TC.seq ?_
          refine TC.region ?_
          refine TL.move rfl rfl ?_
          refine TL.eql rfl rfl rfl ?_
          refine TL.done ?_
          refine Thn.go ?_
          refine TC.condP rfl (fun h5 => ?_) (fun h5 => ?_)
          ·
            have h0 : En.putE R x = 0 := by omega
            refine TC.region ?_
            refine TL.move rfl rfl ?_
            refine TL.assign rfl rfl ?_
            refine TL.done ?_
            exact hK4 o46 _ _ (by repeat (first | exact trivial | refine ⟨rfl, ?_⟩ | refine ⟨congrArg (fun b => some (Value.bool b)) (by first | exact (decide_eq_true (by grind)).symm | exact (decide_eq_false (by grind)).symm | exact decide_eq_decide.2 (by grind) | exact decide_eq_true (by grind) | exact decide_eq_false (by grind) | (exfalso; grind)), ?_⟩)) (⟨hSk2.ch0 hc46, hoff3, by rw [En.stepL, if_pos h0]; exact Rd.ofOwn hv46, q46⟩)
          ·
            have h0 : ¬ En.putE R x = 0 := by omega
            refine TC.skip ?_
            exact hK4 ov _ _ (by repeat (first | exact trivial | refine ⟨rfl, ?_⟩ | refine ⟨congrArg (fun b => some (Value.bool b)) (by first | exact (decide_eq_true (by grind)).symm | exact (decide_eq_false (by grind)).symm | exact decide_eq_decide.2 (by grind) | exact decide_eq_true (by grind) | exact decide_eq_false (by grind) | (exfalso; grind)), ?_⟩)) (⟨hSk2.ch0 hc46, hoff2.ch0 hc46, by rw [En.stepL, if_neg h0]; exact hrd2.ch0 hc46, q46⟩)
        ·
          obtain ⟨hSk5, hoff5, hrd5, q5⟩ := hH
          have hR2c := En.step_check (x := x) hRc
          obtain ⟨R2, hR2⟩ : ∃ R2, En.stepL R x = R2 := ⟨_, rfl⟩
          rw [hR2] at hN2 hnx hrd5 hR2c
          refine TC.regionBool (d := 64) (p := (i < ks.length ∧ i < qs.length)) (fun K6 hK6 => ?_) ?_
          ·
            refine TL.move rfl rfl ?_
            refine TL.move rfl rfl ?_
            refine TL.lenSlice Try.underlying23 rfl rfl ?_
            refine TL.lss rfl rfl rfl ?_
            refine TL.em (fun e58 => ?_) (fun e58 => ?_)
            ·
              refine TL.move rfl rfl ?_
              refine TL.guardYes (d := 59) rfl rfl rfl ?_
              refine TL.move rfl rfl ?_
              refine TL.guardYes (d := 59) rfl rfl rfl ?_
              refine TL.move rfl rfl ?_
              refine TL.guardYes (d := 59) rfl rfl rfl ?_
              refine TL.lenSlice Try.underlying24 rfl rfl ?_
              refine TL.guardYes (d := 59) rfl rfl rfl ?_
              refine TL.lss rfl rfl rfl ?_
              refine TL.pickT rfl rfl rfl rfl ?_
              refine TL.done ?_
              refine hK6 _ ?_
              refine Le.here rfl (by first | exact decide_eq_true (by omega) | exact decide_eq_false (by omega) | exact decide_eq_decide.2 (by omega) | exact decide_eq_true (by grind) | exact decide_eq_false (by grind) | exact decide_eq_decide.2 (by grind)) ?_
              repeat (first | exact Le.refl _ | refine Le.skip rfl ?_)
            ·
              refine TL.move rfl rfl ?_
              refine TL.guardNo (d := 59) rfl rfl rfl rfl rfl ?_
              refine TL.guardNo (d := 59) rfl rfl rfl rfl rfl ?_
              refine TL.guardNo (d := 59) rfl rfl rfl rfl rfl ?_
              refine TL.guardNo (d := 59) rfl rfl rfl rfl rfl ?_
              refine TL.pickF rfl rfl rfl rfl ?_
              refine TL.done ?_
              refine hK6 _ ?_
              refine Le.here rfl (by first | exact decide_eq_true (by omega) | exact decide_eq_false (by omega) | exact decide_eq_decide.2 (by omega) | exact decide_eq_true (by grind) | exact decide_eq_false (by grind) | exact decide_eq_decide.2 (by grind)) ?_
              repeat (first | exact Le.refl _ | refine Le.skip rfl ?_)
          refine TC.condP rfl (fun h8 => ?_) (fun h8 => ?_)
          ·
            obtain ⟨hik, hiq⟩ : i < ks.length ∧ i < qs.length := by assumption
            obtain ⟨b2, o2, rfl⟩ := hk.some_ (by omega)
            obtain ⟨b3, o3, rfl⟩ := hq.some_ (by omega)
            have hkc : ∀ w2, Ch [] w w2 → w2.cell? ⟨b2, o2 + i * 1, none⟩ = some (str ks[i]) := fun w2 h2 => Rd.eltIn (f := str) (hk.ch0 h2) hik
            have hqc : ∀ w2, Ch [] w w2 → w2.cell? ⟨b3, o3 + i * 1, none⟩ = some (Value.int .i64 qs[i]) := fun w2 h2 => Rd.eltIn (f := Value.int .i64) (hq.ch0 h2) hiq
            obtain ⟨kk, hkk⟩ : ∃ kk, ks[i] = kk := ⟨_, rfl⟩
            obtain ⟨qq, hqq⟩ : ∃ qq, qs[i] = qq := ⟨_, rfl⟩
            rw [hkk] at hkc
            rw [hqq] at hqc
            obtain ⟨y, hy⟩ : ∃ y, (En.findX R2 kk qq).getD e0 = y := ⟨_, rfl⟩
            refine TC.cut1 (fun (b13 : Nat) => [(0, .slice (some ⟨b1, o1, none⟩) l.length c), (1, .slice (some ⟨b2, o2, none⟩) ks.length kc), (2, .slice (some ⟨b3, o3, none⟩) qs.length qc), (7, .pointer (some ⟨Q, 0, none⟩)), (8, nv), (9, .int .i64 (i : Int)), (13, .pointer (some ⟨b13, 0, none⟩)), (14, .bool (En.findX R2 kk qq).isSome), (15, .int .i64 (En.findE R2 kk qq : Int))]) (fun b13 w6 => Has w6 b13 (cl y).toArray 30 (0, 0) ∧ Ch [] w5 w6) (fun K9 hK9 => ?_) (fun b13 w6 hH15 => ?_)
            ·
              refine TC.regionH (fun w6 => Ch [] w5 w6) mixed0 ?_
              have hS : (fun w6 => Ch [] w5 w6) _ := Ch.drew _ _
              refine TH.take (i := 0) rfl rfl rfl rfl rfl (by kernel_rfl) (by kernel_rfl) (by kernel_rfl) hS (fun w2 hw2 => TL.move rfl rfl (TL.done ⟨rfl, rfl⟩)) ?_
              refine TH.take (i := 1) rfl rfl rfl rfl rfl (by kernel_rfl) (by kernel_rfl) (by kernel_rfl) hS (fun w2 hw2 => TL.move rfl rfl (TL.done ⟨rfl, rfl⟩)) ?_
              refine TH.take (i := 2) rfl rfl rfl rfl rfl (by kernel_rfl) (by kernel_rfl) (by kernel_rfl) hS (fun w2 hw2 => TL.move rfl rfl (TL.done ⟨rfl, rfl⟩)) ?_
              refine TH.take (i := 3) rfl rfl rfl rfl rfl (by kernel_rfl) (by kernel_rfl) (by kernel_rfl) hS (fun w2 hw2 => TL.indexAddr (i) sl23 rfl rfl (by first | rfl | omega) (by omega) rfl (TL.done ⟨rfl, rfl⟩)) ?_
              refine TH.take (i := 4) rfl rfl rfl rfl rfl (by kernel_rfl) (by kernel_rfl) (by kernel_rfl) hS (fun w2 hw2 => TL.load pl9 rfl (hkc _ (q5.trans0 hw2)) rfl (TL.done ⟨rfl, rfl⟩)) ?_
              refine TH.take (i := 5) rfl rfl rfl rfl rfl (by kernel_rfl) (by kernel_rfl) (by kernel_rfl) hS (fun w2 hw2 => TL.move rfl rfl (TL.done ⟨rfl, rfl⟩)) ?_
              refine TH.take (i := 6) rfl rfl rfl rfl rfl (by kernel_rfl) (by kernel_rfl) (by kernel_rfl) hS (fun w2 hw2 => TL.move rfl rfl (TL.done ⟨rfl, rfl⟩)) ?_
              refine TH.take (i := 7) rfl rfl rfl rfl rfl (by kernel_rfl) (by kernel_rfl) (by kernel_rfl) hS (fun w2 hw2 => TL.indexAddr (i) sl24 rfl rfl (by first | rfl | omega) (by omega) rfl (TL.done ⟨rfl, rfl⟩)) ?_
              refine TH.take (i := 8) rfl rfl rfl rfl rfl (by kernel_rfl) (by kernel_rfl) (by kernel_rfl) hS (fun w2 hw2 => TL.load pl3 rfl (hqc _ (q5.trans0 hw2)) rfl (TL.done ⟨rfl, rfl⟩)) ?_
              refine TH.two (i := 9) (j := 14) (by kernel_rfl) rfl rfl rfl rfl ?_ ?_
              ·
                refine TL.call can12 rfl rfl (fn12 Q hd N2 kk qq (by rw [hN2]; exact hR2c) _ (hSk5.ch0 hS)) (fun v75 w75 hr75 => ?_)
                rw [hN2, hy] at hr75
                obtain ⟨rfl, hc75⟩ := hr75
                have z75 : w5.heap.size ≤ w75.heap.size := by have := Ch.size hS; have := hc75.size; omega
                have hS : (fun w6 => Ch [] w5 w6) _ := Ch.trans0 hS hc75
                refine TL.done ⟨hS, ?_⟩
                refine TH.take (i := 10) rfl rfl rfl rfl rfl (by kernel_rfl) (by kernel_rfl) (by kernel_rfl) hS (fun w2 hw2 => TL.move rfl rfl (TL.done ⟨rfl, rfl⟩)) ?_
                refine TH.take (i := 11) rfl rfl rfl rfl rfl (by kernel_rfl) (by kernel_rfl) (by kernel_rfl) hS (fun w2 hw2 => TL.extract rfl rfl rfl (TL.done ⟨rfl, rfl⟩)) ?_
                refine TH.take (i := 12) rfl rfl rfl rfl rfl (by kernel_rfl) (by kernel_rfl) (by kernel_rfl) hS (fun w2 hw2 => TL.extract rfl rfl rfl (TL.done ⟨rfl, rfl⟩)) ?_
                refine TH.take (i := 13) rfl rfl rfl rfl rfl (by kernel_rfl) (by kernel_rfl) (by kernel_rfl) hS (fun w2 hw2 => TL.extract rfl rfl rfl (TL.done ⟨rfl, rfl⟩)) ?_
                refine TH.one (i := 14) (by kernel_rfl) rfl rfl ?_
                refine TL.alloc ze30 rfl (fun w13 hb13 hc13 hz13 => ?_)
                have hS : (fun w6 => Ch [] w5 w6) _ := Ch.trans0 hS hc13
                refine TL.done ⟨hS, ?_⟩
                refine TH.one (i := 15) (by kernel_rfl) rfl rfl ?_
                refine TL.store sz30 rfl rfl rfl hb13 (by simp [Value.cells]) (by simpa [Value.cells] using cl_one y) (.inl rfl) (fun ws1 hbs1 hcs1 hzs1 => ?_)
                replace hbs1 : Has ws1 w75.heap.size (cl y).toArray 30 (0, 0) := hbs1.setAll rfl
                have hS : (fun w6 => Ch [] w5 w6) _ := Ch.thenS hS hcs1 (fun b hb => by simp at hb; have := z75; omega)
                refine TL.done ⟨hS, ?_⟩
                refine TH.take (i := 16) rfl rfl rfl rfl rfl (by kernel_rfl) (by kernel_rfl) (by kernel_rfl) hS (fun w2 hw2 => TL.assign rfl rfl (TL.done ⟨rfl, rfl⟩)) ?_
                refine TH.take (i := 17) rfl rfl rfl rfl rfl (by kernel_rfl) (by kernel_rfl) (by kernel_rfl) hS (fun w2 hw2 => TL.assign rfl rfl (TL.done ⟨rfl, rfl⟩)) ?_
                refine TH.done (by kernel_rfl) ?_
                exact hK9 w75.heap.size _ _ (by repeat (first | exact trivial | refine ⟨rfl, ?_⟩ | refine ⟨congrArg (fun b => some (Value.bool b)) (by first | exact (decide_eq_true (by grind)).symm | exact (decide_eq_false (by grind)).symm | exact decide_eq_decide.2 (by grind) | exact decide_eq_true (by grind) | exact decide_eq_false (by grind) | (exfalso; grind)), ?_⟩)) (⟨hbs1, hS⟩)
              ·
                refine TL.alloc ze30 rfl (fun w13 hb13 hc13 hz13 => ?_)
                have hS : (fun w6 => Ch [] w5 w6) _ := Ch.trans0 hS hc13
                refine TL.done ⟨hS, ?_⟩
                refine TH.one (i := 9) (by kernel_rfl) rfl rfl ?_
                refine TL.call can12 rfl rfl (fn12 Q hd N2 kk qq (by rw [hN2]; exact hR2c) _ (hSk5.ch0 hS)) (fun v75 w75 hr75 => ?_)
                rw [hN2, hy] at hr75
                obtain ⟨rfl, hc75⟩ := hr75
                have z75 : w5.heap.size ≤ w75.heap.size := by have := Ch.size hS; have := hc75.size; omega
                have hS : (fun w6 => Ch [] w5 w6) _ := Ch.trans0 hS hc75
                refine TL.done ⟨hS, ?_⟩
                refine TH.take (i := 10) rfl rfl rfl rfl rfl (by kernel_rfl) (by kernel_rfl) (by kernel_rfl) hS (fun w2 hw2 => TL.move rfl rfl (TL.done ⟨rfl, rfl⟩)) ?_
                refine TH.take (i := 11) rfl rfl rfl rfl rfl (by kernel_rfl) (by kernel_rfl) (by kernel_rfl) hS (fun w2 hw2 => TL.extract rfl rfl rfl (TL.done ⟨rfl, rfl⟩)) ?_
                refine TH.take (i := 12) rfl rfl rfl rfl rfl (by kernel_rfl) (by kernel_rfl) (by kernel_rfl) hS (fun w2 hw2 => TL.extract rfl rfl rfl (TL.done ⟨rfl, rfl⟩)) ?_
                refine TH.take (i := 13) rfl rfl rfl rfl rfl (by kernel_rfl) (by kernel_rfl) (by kernel_rfl) hS (fun w2 hw2 => TL.extract rfl rfl rfl (TL.done ⟨rfl, rfl⟩)) ?_
                refine TH.one (i := 15) (by kernel_rfl) rfl rfl ?_
                refine TL.store sz30 rfl rfl rfl (hb13.ch0 hc75) (by simp [Value.cells]) (by simpa [Value.cells] using cl_one y) (.inl rfl) (fun ws1 hbs1 hcs1 hzs1 => ?_)
                replace hbs1 : Has ws1 w5.drew.heap.size (cl y).toArray 30 (0, 0) := hbs1.setAll rfl
                have hS : (fun w6 => Ch [] w5 w6) _ := Ch.thenS hS hcs1 (fun b hb => by simp at hb; have : w5.drew.heap.size = w5.heap.size := rfl; omega)
                refine TL.done ⟨hS, ?_⟩
                refine TH.take (i := 16) rfl rfl rfl rfl rfl (by kernel_rfl) (by kernel_rfl) (by kernel_rfl) hS (fun w2 hw2 => TL.assign rfl rfl (TL.done ⟨rfl, rfl⟩)) ?_
                refine TH.take (i := 17) rfl rfl rfl rfl rfl (by kernel_rfl) (by kernel_rfl) (by kernel_rfl) hS (fun w2 hw2 => TL.assign rfl rfl (TL.done ⟨rfl, rfl⟩)) ?_
                refine TH.done (by kernel_rfl) ?_
                exact hK9 w5.drew.heap.size _ _ (by repeat (first | exact trivial | refine ⟨rfl, ?_⟩ | refine ⟨congrArg (fun b => some (Value.bool b)) (by first | exact (decide_eq_true (by grind)).symm | exact (decide_eq_false (by grind)).symm | exact decide_eq_decide.2 (by grind) | exact decide_eq_true (by grind) | exact decide_eq_false (by grind) | (exfalso; grind)), ?_⟩)) (⟨hbs1, hS⟩)
            ·
              refine TC.cut1 (fun (b16 : Nat) => [(0, .slice (some ⟨b1, o1, none⟩) l.length c), (1, .slice (some ⟨b2, o2, none⟩) ks.length kc), (2, .slice (some ⟨b3, o3, none⟩) qs.length qc), (7, .pointer (some ⟨Q, 0, none⟩)), (8, nv), (9, .int .i64 (i : Int)), (13, .pointer (some ⟨b13, 0, none⟩)), (14, .bool (En.findX R2 kk qq).isSome), (15, .int .i64 (En.findE R2 kk qq : Int)), (16, .pointer (some ⟨b16, 0, none⟩)), (17, .bool (En.findX R2 kk qq).isSome), (18, .int .i64 (En.findE R2 kk qq : Int))]) (fun b16 w7 => Has w7 b16 (cl y).toArray 30 (0, 0) ∧ Ch [] w6 w7) (fun K10 hK10 => ?_) (fun b16 w7 hH16 => ?_)
              ·
                refine TC.regionH (fun w7 => Ch [] w6 w7) mixed0 ?_
                have hS : (fun w7 => Ch [] w6 w7) _ := Ch.drew _ _
                refine TH.take (i := 0) rfl rfl rfl rfl rfl (by kernel_rfl) (by kernel_rfl) (by kernel_rfl) hS (fun w2 hw2 => TL.move rfl rfl (TL.done ⟨rfl, rfl⟩)) ?_
                refine TH.take (i := 1) rfl rfl rfl rfl rfl (by kernel_rfl) (by kernel_rfl) (by kernel_rfl) hS (fun w2 hw2 => TL.move rfl rfl (TL.done ⟨rfl, rfl⟩)) ?_
                refine TH.take (i := 2) rfl rfl rfl rfl rfl (by kernel_rfl) (by kernel_rfl) (by kernel_rfl) hS (fun w2 hw2 => TL.move rfl rfl (TL.done ⟨rfl, rfl⟩)) ?_
                refine TH.take (i := 3) rfl rfl rfl rfl rfl (by kernel_rfl) (by kernel_rfl) (by kernel_rfl) hS (fun w2 hw2 => TL.indexAddr (i) sl23 rfl rfl (by first | rfl | omega) (by omega) rfl (TL.done ⟨rfl, rfl⟩)) ?_
                refine TH.take (i := 4) rfl rfl rfl rfl rfl (by kernel_rfl) (by kernel_rfl) (by kernel_rfl) hS (fun w2 hw2 => TL.load pl9 rfl (hkc _ ((q5.trans0 hH15.2).trans0 hw2)) rfl (TL.done ⟨rfl, rfl⟩)) ?_
                refine TH.take (i := 5) rfl rfl rfl rfl rfl (by kernel_rfl) (by kernel_rfl) (by kernel_rfl) hS (fun w2 hw2 => TL.move rfl rfl (TL.done ⟨rfl, rfl⟩)) ?_
                refine TH.take (i := 6) rfl rfl rfl rfl rfl (by kernel_rfl) (by kernel_rfl) (by kernel_rfl) hS (fun w2 hw2 => TL.move rfl rfl (TL.done ⟨rfl, rfl⟩)) ?_
                refine TH.take (i := 7) rfl rfl rfl rfl rfl (by kernel_rfl) (by kernel_rfl) (by kernel_rfl) hS (fun w2 hw2 => TL.indexAddr (i) sl24 rfl rfl (by first | rfl | omega) (by omega) rfl (TL.done ⟨rfl, rfl⟩)) ?_
                refine TH.take (i := 8) rfl rfl rfl rfl rfl (by kernel_rfl) (by kernel_rfl) (by kernel_rfl) hS (fun w2 hw2 => TL.load pl3 rfl (hqc _ ((q5.trans0 hH15.2).trans0 hw2)) rfl (TL.done ⟨rfl, rfl⟩)) ?_
                refine TH.two (i := 9) (j := 14) (by kernel_rfl) rfl rfl rfl rfl ?_ ?_
                ·
                  refine TL.call can13 rfl rfl (fn13 nv R2 kk qq _ ((hrd5.ch0 hH15.2).ch0 hS)) (fun v89 w89 hr89 => ?_)
                  rw [hy] at hr89
                  obtain ⟨rfl, hc89⟩ := hr89
                  have z89 : w6.heap.size ≤ w89.heap.size := by have := Ch.size hS; have := hc89.size; omega
                  have hS : (fun w7 => Ch [] w6 w7) _ := Ch.trans0 hS hc89
                  refine TL.done ⟨hS, ?_⟩
                  refine TH.take (i := 10) rfl rfl rfl rfl rfl (by kernel_rfl) (by kernel_rfl) (by kernel_rfl) hS (fun w2 hw2 => TL.move rfl rfl (TL.done ⟨rfl, rfl⟩)) ?_
                  refine TH.take (i := 11) rfl rfl rfl rfl rfl (by kernel_rfl) (by kernel_rfl) (by kernel_rfl) hS (fun w2 hw2 => TL.extract rfl rfl rfl (TL.done ⟨rfl, rfl⟩)) ?_
                  refine TH.take (i := 12) rfl rfl rfl rfl rfl (by kernel_rfl) (by kernel_rfl) (by kernel_rfl) hS (fun w2 hw2 => TL.extract rfl rfl rfl (TL.done ⟨rfl, rfl⟩)) ?_
                  refine TH.take (i := 13) rfl rfl rfl rfl rfl (by kernel_rfl) (by kernel_rfl) (by kernel_rfl) hS (fun w2 hw2 => TL.extract rfl rfl rfl (TL.done ⟨rfl, rfl⟩)) ?_
                  refine TH.one (i := 14) (by kernel_rfl) rfl rfl ?_
                  refine TL.alloc ze30 rfl (fun w16 hb16 hc16 hz16 => ?_)
                  have hS : (fun w7 => Ch [] w6 w7) _ := Ch.trans0 hS hc16
                  refine TL.done ⟨hS, ?_⟩
                  refine TH.one (i := 15) (by kernel_rfl) rfl rfl ?_
                  refine TL.store sz30 rfl rfl rfl hb16 (by simp [Value.cells]) (by simpa [Value.cells] using cl_one y) (.inl rfl) (fun ws2 hbs2 hcs2 hzs2 => ?_)
                  replace hbs2 : Has ws2 w89.heap.size (cl y).toArray 30 (0, 0) := hbs2.setAll rfl
                  have hS : (fun w7 => Ch [] w6 w7) _ := Ch.thenS hS hcs2 (fun b hb => by simp at hb; have := z89; omega)
                  refine TL.done ⟨hS, ?_⟩
                  refine TH.take (i := 16) rfl rfl rfl rfl rfl (by kernel_rfl) (by kernel_rfl) (by kernel_rfl) hS (fun w2 hw2 => TL.assign rfl rfl (TL.done ⟨rfl, rfl⟩)) ?_
                  refine TH.take (i := 17) rfl rfl rfl rfl rfl (by kernel_rfl) (by kernel_rfl) (by kernel_rfl) hS (fun w2 hw2 => TL.assign rfl rfl (TL.done ⟨rfl, rfl⟩)) ?_
                  refine TH.done (by kernel_rfl) ?_
                  exact hK10 w89.heap.size _ _ (by repeat (first | exact trivial | refine ⟨rfl, ?_⟩ | refine ⟨congrArg (fun b => some (Value.bool b)) (by first | exact (decide_eq_true (by grind)).symm | exact (decide_eq_false (by grind)).symm | exact decide_eq_decide.2 (by grind) | exact decide_eq_true (by grind) | exact decide_eq_false (by grind) | (exfalso; grind)), ?_⟩)) (⟨hbs2, hS⟩)
                ·
                  refine TL.alloc ze30 rfl (fun w16 hb16 hc16 hz16 => ?_)
                  have hS : (fun w7 => Ch [] w6 w7) _ := Ch.trans0 hS hc16
                  refine TL.done ⟨hS, ?_⟩
                  refine TH.one (i := 9) (by kernel_rfl) rfl rfl ?_
                  refine TL.call can13 rfl rfl (fn13 nv R2 kk qq _ ((hrd5.ch0 hH15.2).ch0 hS)) (fun v89 w89 hr89 => ?_)
                  rw [hy] at hr89
                  obtain ⟨rfl, hc89⟩ := hr89
                  have z89 : w6.heap.size ≤ w89.heap.size := by have := Ch.size hS; have := hc89.size; omega
                  have hS : (fun w7 => Ch [] w6 w7) _ := Ch.trans0 hS hc89
                  refine TL.done ⟨hS, ?_⟩
                  refine TH.take (i := 10) rfl rfl rfl rfl rfl (by kernel_rfl) (by kernel_rfl) (by kernel_rfl) hS (fun w2 hw2 => TL.move rfl rfl (TL.done ⟨rfl, rfl⟩)) ?_
                  refine TH.take (i := 11) rfl rfl rfl rfl rfl (by kernel_rfl) (by kernel_rfl) (by kernel_rfl) hS (fun w2 hw2 => TL.extract rfl rfl rfl (TL.done ⟨rfl, rfl⟩)) ?_
                  refine TH.take (i := 12) rfl rfl rfl rfl rfl (by kernel_rfl) (by kernel_rfl) (by kernel_rfl) hS (fun w2 hw2 => TL.extract rfl rfl rfl (TL.done ⟨rfl, rfl⟩)) ?_
                  refine TH.take (i := 13) rfl rfl rfl rfl rfl (by kernel_rfl) (by kernel_rfl) (by kernel_rfl) hS (fun w2 hw2 => TL.extract rfl rfl rfl (TL.done ⟨rfl, rfl⟩)) ?_
                  refine TH.one (i := 15) (by kernel_rfl) rfl rfl ?_
                  refine TL.store sz30 rfl rfl rfl (hb16.ch0 hc89) (by simp [Value.cells]) (by simpa [Value.cells] using cl_one y) (.inl rfl) (fun ws2 hbs2 hcs2 hzs2 => ?_)
                  replace hbs2 : Has ws2 w6.drew.heap.size (cl y).toArray 30 (0, 0) := hbs2.setAll rfl
                  have hS : (fun w7 => Ch [] w6 w7) _ := Ch.thenS hS hcs2 (fun b hb => by simp at hb; have : w6.drew.heap.size = w6.heap.size := rfl; omega)
                  refine TL.done ⟨hS, ?_⟩
                  refine TH.take (i := 16) rfl rfl rfl rfl rfl (by kernel_rfl) (by kernel_rfl) (by kernel_rfl) hS (fun w2 hw2 => TL.assign rfl rfl (TL.done ⟨rfl, rfl⟩)) ?_
                  refine TH.take (i := 17) rfl rfl rfl rfl rfl (by kernel_rfl) (by kernel_rfl) (by kernel_rfl) hS (fun w2 hw2 => TL.assign rfl rfl (TL.done ⟨rfl, rfl⟩)) ?_
                  refine TH.done (by kernel_rfl) ?_
                  exact hK10 w6.drew.heap.size _ _ (by repeat (first | exact trivial | refine ⟨rfl, ?_⟩ | refine ⟨congrArg (fun b => some (Value.bool b)) (by first | exact (decide_eq_true (by grind)).symm | exact (decide_eq_false (by grind)).symm | exact decide_eq_decide.2 (by grind) | exact decide_eq_true (by grind) | exact decide_eq_false (by grind) | (exfalso; grind)), ?_⟩)) (⟨hbs2, hS⟩)
              ·
                refine TC.seq ?_
                refine TC.region ?_
                refine TL.loadAgg (cl y) ag30 rfl rfl (fun j _ => by rw [(hH15.1.ch0 hH16.2).cell, Nat.zero_add, List.getElem?_toArray]) rfl ?_
                refine TL.loadAgg (cl y) ag30 rfl rfl (fun j _ => by rw [hH16.1.cell, Nat.zero_add, List.getElem?_toArray]) rfl ?_
                refine TL.neqAgg gd30 (eqEntry y y _) rfl rfl rfl ?_
                refine TL.no (by simp) ?_
                refine TL.move rfl rfl ?_
                refine TL.guardYes (d := 96) rfl rfl rfl ?_
                refine TL.move rfl rfl ?_
                refine TL.guardYes (d := 96) rfl rfl rfl ?_
                refine TL.move rfl rfl ?_
                refine TL.guardYes (d := 96) rfl rfl rfl ?_
                refine TL.neqBool Try.underlying4 rfl rfl rfl ?_
                refine TL.no (by simp) ?_
                refine TL.pickF rfl rfl rfl rfl ?_
                refine TL.move rfl rfl ?_
                refine TL.guardYes (d := 101) rfl rfl rfl ?_
                refine TL.move rfl rfl ?_
                refine TL.guardYes (d := 101) rfl rfl rfl ?_
                refine TL.move rfl rfl ?_
                refine TL.guardYes (d := 101) rfl rfl rfl ?_
                refine TL.neq rfl rfl rfl ?_
                refine TL.no (by simp) ?_
                refine TL.pickF rfl rfl rfl rfl ?_
                refine TL.done ?_
                refine Thn.go ?_
                refine TC.condF rfl rfl ?_
                refine TC.skip ?_
                refine Blk.go ?_
                refine Thn.go ?_
                refine TC.region ?_
                refine TL.move rfl rfl ?_
                refine TL.add_i64 rfl rfl (by omega) (by omega) rfl ?_
                refine TL.assign rfl rfl ?_
                refine TL.done ?_
                refine Lp.go ((i + 1, nv)) (by repeat (first | exact trivial | refine ⟨rfl, ?_⟩)) ?_ (by first | omega | (dsimp only; omega))
                have q9 : Ch [] w5 w7 := hH15.2.trans0 hH16.2
                exact ⟨by show i + 1 ≤ l.length; omega, ⟨N2, hSk5.ch0 q9, by rw [hN2, hnx], hbg2, hoff5.ch0 q9⟩, by show Rd w7 nv 4 (En.rowL (l.take (i + 1))).length _; rw [hnx]; exact hrd5.ch0 q9, q5.trans0 q9⟩
          ·
            refine TC.skip ?_
            refine Blk.go ?_
            refine Thn.go ?_
            refine TC.region ?_
            refine TL.move rfl rfl ?_
            refine TL.add_i64 rfl rfl (by omega) (by omega) rfl ?_
            refine TL.assign rfl rfl ?_
            refine TL.done ?_
            refine Lp.go ((i + 1, nv)) (by repeat (first | exact trivial | refine ⟨rfl, ?_⟩)) ?_ (by first | omega | (dsimp only; omega))
            exact ⟨by show i + 1 ≤ l.length; omega, ⟨N2, hSk5, by rw [hN2, hnx], hbg2, hoff5⟩, by show Rd w5 nv 4 (En.rowL (l.take (i + 1))).length _; rw [hnx]; exact hrd5, q5⟩
    ·
      have hil : i = l.length := by omega
      have hNl : N.length ≤ 100000 := by rw [← exs_len, hN]; omega
      refine TC.exit ?_
      refine Thn.exit ?_
      refine Lp.exit ?_
      refine Blk.hit ?_
      refine Thn.go ?_
      refine TC.seq ?_
      refine TC.region ?_
      refine TL.move rfl rfl ?_
      refine TL.call can14 rfl rfl (fn14 Q hd N hNl w' hSk) (fun v108 w108 hr108 => ?_)
      rw [hN] at hr108
      obtain ⟨o108, rfl, hv108, hc108⟩ := hr108
      refine TL.move rfl rfl ?_
      refine TL.extract rfl rfl rfl ?_
      refine TL.extract rfl rfl rfl ?_
      refine TL.assign rfl rfl ?_
      refine TL.assign rfl rfl ?_
      refine TL.done ?_
      refine Thn.go ?_
      refine TC.seq ?_
      refine TC.seq ?_
      refine TC.region ?_
      refine TL.move rfl rfl ?_
      refine TL.neq rfl rfl rfl ?_
      refine TL.no (by simp) ?_
      refine TL.move rfl rfl ?_
      refine TL.guardYes (d := 113) rfl rfl rfl ?_
      refine TL.move rfl rfl ?_
      refine TL.guardYes (d := 113) rfl rfl rfl ?_
      refine TL.move rfl rfl ?_
      refine TL.guardYes (d := 113) rfl rfl rfl ?_
      refine TL.call can15 rfl rfl (fn15 _ _ R R w108 (Rd.ofOwn hv108) (hrd.ch0 hc108)) (fun v116 w116 hr116 => ?_)
      obtain ⟨rfl, hc116⟩ := hr116
      refine TL.yes (rfl) ?_
      have g108 := hv108.ch0 hc116
      obtain ⟨d108, p108, rfl⟩ := g108.shape
      have k116 := hc108.trans0 hc116
      refine TL.guardYes (d := 113) rfl rfl rfl ?_
      refine TL.not rfl rfl ?_
      refine TL.pickF rfl rfl rfl rfl ?_
      refine TL.done ?_
      refine Thn.go ?_
      refine TC.condF rfl rfl ?_
      refine TC.skip ?_
      refine Thn.go ?_
      refine TC.seq ?_
      refine TC.seq ?_
      refine TC.region ?_
      refine TL.assign rfl rfl ?_
      refine TL.done ?_
      refine Thn.go ?_
      refine TC.block ?_
      refine TC.loop1 (fun (j : Nat) => [(7, .pointer (some ⟨Q, 0, none⟩)), (8, ov), (19, .slice d108 R.length p108), (21, .int .i64 (j : Int))]) (fun j w2 => j ≤ R.length ∧ (0 < R.length → ∃ g cur, d108 = some ⟨g, 0, none⟩ ∧ Has w2 g cur 30 (0, 0) ∧ R.length * 4 ≤ cur.size) ∧ Ch (blk (.slice d108 R.length p108)) w116 w2) (fun j => R.length - j) 0 (by repeat (first | exact trivial | refine ⟨rfl, ?_⟩)) (⟨by omega, fun h0 => by obtain ⟨g, c', e⟩ := g108.form h0; cases e; obtain ⟨cur, hcur, hcsz, hcn, _⟩ := g108.has; exact ⟨g, cur, rfl, hcur, by omega⟩, Ch.refl _ _⟩) (fun j w2 hJ => ?_)
      obtain ⟨hj, hg, hch2⟩ := hJ
      refine TC.seq ?_
      refine TC.seq ?_
      refine TC.region ?_
      refine TL.move rfl rfl ?_
      refine TL.move rfl rfl ?_
      refine TL.lenSlice Try.underlying22 rfl rfl ?_
      refine TL.lss rfl rfl rfl ?_
      refine TL.done ?_
      refine Thn.go ?_
      refine TC.condP rfl (fun h13 => ?_) (fun h13 => ?_)
      ·
        have hjl : j < R.length := by omega
        obtain ⟨g, cur, rfl, hcur, hsz⟩ := hg (by omega)
        refine TC.skip ?_
        refine Thn.go ?_
        refine TC.seq ?_
        refine TC.block ?_
        refine TC.region ?_
        refine TL.move rfl rfl ?_
        refine TL.move rfl rfl ?_
        refine TL.buildRec [] [] (cl e0) rfl rfl (by kernel_rfl) rfl ?_
        refine TL.indexAddr (j) sl22 rfl rfl (by first | rfl | omega) (by omega) rfl ?_
        refine TL.store sz30 rfl rfl rfl hcur (by omega) (by simpa [Value.cells] using cl_one e0) (.inl rfl) (fun ws3 hbs3 hcs3 hzs3 => ?_)
        refine TL.done ?_
        refine Blk.go ?_
        refine Thn.go ?_
        refine TC.region ?_
        refine TL.move rfl rfl ?_
        refine TL.add_i64 rfl rfl (by omega) (by omega) rfl ?_
        refine TL.assign rfl rfl ?_
        refine TL.done ?_
        refine Lp.go (j + 1) (by repeat (first | exact trivial | refine ⟨rfl, ?_⟩)) ?_ (by first | omega | (dsimp only; omega))
        exact ⟨by omega, fun _ => ⟨g, _, rfl, hbs3, by rw [size_spl (by simp [cl_len, Value.cells]; omega)]; exact hsz⟩, hch2.trans hcs3 (fun x h _ => h) (fun x h _ => by simpa [blk, Value.ownBlock] using h)⟩
      ·
        have hSk9 := (hSk.ch0 k116).ch hch2 (fun b hb hm => by have := hSk.lt b hb; have := hv108.ge b (by simpa [blk] using hm); omega)
        have hrd9 := (hrd.ch0 k116).ch hch2 (fun b hb hm => by have := (hoff b hb).2; have := hv108.ge b (by simpa [blk] using hm); omega)
        have q9 := (hch.trans0 k116).thenS hch2 (fun b hm => by have := hv108.ge b (by simpa [blk] using hm); have := hch.size; omega)
        refine TC.exit ?_
        refine Thn.exit ?_
        refine Lp.exit ?_
        refine Blk.hit ?_
        refine Thn.go ?_
        refine TC.seq ?_
        refine TC.region ?_
        refine TL.move rfl rfl ?_
        refine TL.call can14 rfl rfl (fn14 Q hd N hNl w2 hSk9) (fun v131 w131 hr131 => ?_)
        rw [hN] at hr131
        obtain ⟨o131, rfl, hv131, hc131⟩ := hr131
        refine TL.move rfl rfl ?_
        refine TL.extract rfl rfl rfl ?_
        refine TL.extract rfl rfl rfl ?_
        refine TL.assign rfl rfl ?_
        refine TL.assign rfl rfl ?_
        refine TL.done ?_
        refine Thn.go ?_
        refine TC.seq ?_
        refine TC.region ?_
        refine TL.move rfl rfl ?_
        refine TL.eql rfl rfl rfl ?_
        refine TL.yes (rfl) ?_
        refine TL.move rfl rfl ?_
        refine TL.guardYes (d := 136) rfl rfl rfl ?_
        refine TL.move rfl rfl ?_
        refine TL.guardYes (d := 136) rfl rfl rfl ?_
        refine TL.move rfl rfl ?_
        refine TL.guardYes (d := 136) rfl rfl rfl ?_
        refine TL.call can15 rfl rfl (fn15 _ _ R R w131 (Rd.ofOwn hv131) (hrd9.ch0 hc131)) (fun v139 w139 hr139 => ?_)
        obtain ⟨rfl, hc139⟩ := hr139
        refine TL.pickT rfl rfl rfl rfl ?_
        refine TL.assign rfl rfl ?_
        refine TL.done ?_
        refine Thn.go ?_
        refine TC.ret ?_
        refine Ends.ret [6] rfl rfl ?_
        exact ⟨by first | rfl | (simp; rfl), q9.trans0 (hc131.trans0 hc139)⟩

