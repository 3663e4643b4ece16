/-
  Walks through the given program: each theorem fnN says what the call of function N of the translation hands back, for all arguments that its premises describe, and that nothing that was there has turned.
-/
import Derived.Test.YtilnoklpikblgaaE14
import Derived.Test.YtilnoklpikblgaaMg4
namespace Go.Proofs.Ytilnoklpikblgaa
open Go.Lane
theorem fd51k0 : FieldT Try.prog 51 0 25 0 1 := ⟨_, _, Try.underlying51, rfl, rfl, rfl, by kernel_rfl, by decide⟩
theorem adv_own {ad : Option Addr} {c i sz n m k : Nat} {b : Nat} (h : (Value.slice (adv ad c i sz) n m).ownBlock = some b) : (Value.slice ad k c).ownBlock = some b := by
  unfold adv at h
  split at h
  · cases ad <;> exact h
  · cases ad with
    | none => exact absurd h (by simp [Value.ownBlock])
    | some a =>
      simp only [Value.ownBlock, Option.map_some, Option.some.injEq, Addr.add] at h ⊢
      split at h <;> exact h

theorem fn22 (av : Value) (Ls : List Row) (q : Int) (k : List UInt8) (w : World) (ha : Rd w av 1 Ls.length (vals Ls)) (hr : ∀ p ∈ Ls, Rd w p.1 4 p.2.length (p.2.flatMap cl)) (hsum : (Ls.map (·.2)).flatten.length ≤ 2000000) : Rets Try.prog 22 #[av, .int .i64 q, str k] w (fun r w' => (∃ pa, r = .tuple #[.pointer pa, .int .i64 (En.newE (Ls.map (·.2)) q k : Int)] ∧ (En.newE (Ls.map (·.2)) q k ≠ 0 → pa = none) ∧ (En.newE (Ls.map (·.2)) q k = 0 → ∃ H v, pa = some ⟨H, 0, none⟩ ∧ w.heap.size ≤ H ∧ Has w' H #[v, .bool true] 51 (0, 0) ∧ Rd w' v 4 (En.newL (Ls.map (·.2)) q k).length ((En.newL (Ls.map (·.2)) q k).flatMap cl) ∧ ∀ b, v.ownBlock = some b → w.heap.size ≤ b ∧ b ≠ H ∧ b < w'.heap.size)) ∧ Ch [] w w') := by
  have hmm : maxLen = 9223372036854775807 := rfl
  refine Rets.of (n := 38) (vs := [_, _, _]) Try.func22 rfl rfl rfl ?_
  refine TC.seq ?_
  refine TC.region ?_
  refine TL.assign rfl rfl ?_
  refine TL.assign rfl rfl ?_
  refine TL.done ?_
  refine Thn.go ?_
  refine TC.seq ?_
  refine TC.region ?_
  refine TL.move rfl rfl ?_
  refine TL.move rfl rfl ?_
  refine TL.call can17 rfl rfl (fn17 av Ls q w ha hr hsum) (fun v13 w13 hr13 => ?_)
  obtain ⟨o13, rfl, hv13, hc13⟩ := hr13
  refine TL.move rfl rfl ?_
  refine TL.extract rfl rfl rfl ?_
  refine TL.extract rfl rfl rfl ?_
  refine TL.assign rfl rfl ?_
  refine TL.assign rfl rfl ?_
  refine TL.done ?_
  refine Thn.go ?_
  refine TC.seq ?_
  refine TC.seq ?_
  refine TC.region ?_
  refine TL.move rfl rfl ?_
  refine TL.neq rfl rfl rfl ?_
  refine TL.done ?_
  refine Thn.go ?_
  refine TC.condP rfl (fun h1 => ?_) (fun h1 => ?_)
  ·
    obtain ⟨e1, e2⟩ := En.new_live (D := Ls.map (·.2)) (q := q) (k := k) (by omega)
    refine TC.seq ?_
    refine TC.region ?_
    refine TL.move rfl rfl ?_
    refine TL.assign rfl rfl ?_
    refine TL.assign rfl rfl ?_
    refine TL.done ?_
    refine Thn.go ?_
    refine TC.ret ?_
    refine Thn.ret ?_
    refine Ends.ret [6, 7] rfl rfl ?_
    exact ⟨⟨_, by rw [e1]; rfl, fun _ => rfl, fun h => by omega⟩, hc13⟩
  ·
    have hz : En.liveE (Ls.map (·.2)) q = 0 := by omega
    refine TC.skip ?_
    refine Thn.go ?_
    refine TC.seq ?_
    refine TC.seq ?_
    refine TC.region ?_
    refine TL.move rfl rfl ?_
    refine TL.lenStr Try.underlying9 rfl rfl ?_
    refine TL.gtr rfl rfl rfl ?_
    refine TL.done ?_
    refine Thn.go ?_
    refine TC.condP rfl (fun h2 => ?_) (fun h2 => ?_)
    ·
      obtain ⟨e1, e2⟩ := En.new_text (k := k) hz (by omega)
      refine TC.seq ?_
      refine TC.region ?_
      refine TL.assign rfl rfl ?_
      refine TL.assign rfl rfl ?_
      refine TL.done ?_
      refine Thn.go ?_
      refine TC.ret ?_
      refine Thn.ret ?_
      refine Ends.ret [6, 7] rfl rfl ?_
      exact ⟨⟨_, by rw [e1]; rfl, fun _ => rfl, fun h => by omega⟩, hc13⟩
    ·
      obtain ⟨e1, e2⟩ := En.new_ok (k := k) hz (by omega)
      have hs := En.liveL_rises (Ls.map (·.2)) q
      have hll := En.liveL_len (Ls.map (·.2)) q
      rw [e1, e2]
      obtain ⟨l, hl0⟩ : ∃ l, En.liveL (Ls.map (·.2)) q = l := ⟨_, rfl⟩
      rw [hl0] at hv13 hs hll ⊢
      refine TC.skip ?_
      refine Thn.go ?_
      refine TC.seq ?_
      refine TC.block ?_
      refine TC.loop2 (fun (j : Nat) (v : Value) => [(2, str k), (8, v)]) (fun j v w' => j ≤ l.length ∧ (∀ i, i < j → En.ge k (En.rec l i) = false) ∧ Rd w' v 4 (l.drop j).length ((l.drop j).flatMap cl) ∧ (∀ b, v.ownBlock = some b → w.heap.size ≤ b ∧ b < w13.heap.size) ∧ Ch [] w13 w') (fun j _ => l.length - j) 0 o13 (by repeat (first | exact trivial | refine ⟨rfl, ?_⟩)) (⟨by omega, fun i hi => by omega, Rd.ofOwn hv13, fun b hb => ⟨hv13.ge b hb, hv13.lt b hb⟩, Ch.refl _ _⟩) (fun j v w' hH => ?_)
      obtain ⟨hj, hg, hrd, hbk, hch⟩ := hH
      have hdl : (l.drop j).length = l.length - j := List.length_drop
      obtain ⟨ad, c, rfl, _⟩ := hrd.shape
      have hnl := hrd.nlt
      obtain ⟨dl, hdl0⟩ : ∃ dl, l.drop j = dl := ⟨_, rfl⟩
      rw [hdl0] at hrd hdl hnl ⊢
      refine TC.seq ?_
      refine TC.regionBool (d := 32) (p := (0 < dl.length ∧ En.ge k (En.rec dl 0) = false)) (fun K3 hK3 => ?_) ?_
      ·
        refine TL.move rfl rfl ?_
        refine TL.lenSlice Try.underlying25 rfl rfl ?_
        refine TL.gtr rfl rfl rfl ?_
        refine TL.em (fun e24 => ?_) (fun e24 => ?_)
        ·
          have hp0 : 0 < dl.length := by omega
          have hge : En.ge k (En.rec dl 0) = !Op.bytesLess (En.rec dl 0).key k := rfl
          obtain ⟨b1, o1, rfl, hea⟩ := recAll hrd hp0
          refine TL.move rfl rfl ?_
          refine TL.guardYes (d := 25) rfl rfl rfl ?_
          refine TL.move rfl rfl ?_
          refine TL.guardYes (d := 25) rfl rfl rfl ?_
          refine TL.indexAddr (0) sl25 rfl rfl rfl hp0 rfl ?_
          refine TL.guardYes (d := 25) rfl rfl rfl ?_
          refine TL.fieldAddr fd32k0 rfl rfl ?_
          refine TL.guardYes (d := 25) rfl rfl rfl ?_
          refine TL.load pl9 rfl ((show _ = some (str (En.rec dl 0).key) from hea 0 hp0 _ (Ch.refl _ _) 0 (by decide))) rfl ?_
          refine TL.guardYes (d := 25) rfl rfl rfl ?_
          refine TL.move rfl rfl ?_
          refine TL.guardYes (d := 25) rfl rfl rfl ?_
          refine TL.lssStr rfl rfl rfl ?_
          refine TL.pickT rfl rfl rfl rfl ?_
          refine TL.done ?_
          refine hK3 _ ?_
          refine Le.here rfl (by first | exact decide_eq_true (by omega) | exact decide_eq_false (by omega) | (rw [Bool.eq_iff_iff, decide_eq_true_iff, hge]; simp [hp0])) ?_
          repeat (first | exact Le.refl _ | refine Le.skip rfl ?_)
        ·
          refine TL.move rfl rfl ?_
          refine TL.guardNo (d := 25) rfl rfl rfl rfl rfl ?_
          refine TL.guardNo (d := 25) rfl rfl rfl rfl rfl ?_
          refine TL.guardNo (d := 25) rfl rfl rfl rfl rfl ?_
          refine TL.guardNo (d := 25) rfl rfl rfl rfl rfl ?_
          refine TL.guardNo (d := 25) rfl rfl rfl rfl rfl ?_
          refine TL.guardNo (d := 25) rfl rfl rfl rfl rfl ?_
          refine TL.pickF rfl rfl rfl rfl ?_
          refine TL.done ?_
          refine hK3 _ ?_
          refine Le.here rfl (by first | exact decide_eq_true (by omega) | exact decide_eq_false (by omega) | (rw [Bool.eq_iff_iff, decide_eq_true_iff, hge]; simp [hp0])) ?_
          repeat (first | exact Le.refl _ | refine Le.skip rfl ?_)
      refine TC.condP rfl (fun h5 => ?_) (fun h5 => ?_)
      ·
        have hin : 0 < dl.length ∧ En.ge k (En.rec dl 0) = false := by assumption
        refine TC.skip ?_
        refine Thn.go ?_
        refine TC.block ?_
        refine TC.region ?_
        refine TL.move rfl rfl ?_
        refine TL.sliceFrom (1) sl25 rfl rfl rfl hin.1 rfl ?_
        refine TL.assign rfl rfl ?_
        refine TL.done ?_
        refine Blk.go ?_
        refine Lp.go ((j + 1, .slice (adv ad c 1 4) (dl.length - 1) (c - 1))) (by repeat (first | exact trivial | refine ⟨rfl, ?_⟩)) ?_ (by first | omega | (dsimp only; omega))
        have hsuf := suffixRd hrd (i := 1) (by omega)
        have hd1 : dl.drop 1 = l.drop (j + 1) := by rw [← hdl0, List.drop_drop]
        have hd2 : (l.drop (j + 1)).length = dl.length - 1 := by rw [← hd1, List.length_drop]
        refine ⟨by show j + 1 ≤ l.length; omega, fun i hi => ?_, by show Rd _ _ 4 (l.drop (j + 1)).length _; rw [hd1] at hsuf; exact hsuf, fun b hb => hbk b (adv_own hb), hch⟩
        rcases Nat.lt_or_ge i j with h | h
        · exact hg i h
        · have h3 : i = j := by have : i < j + 1 := hi; omega
          have := hin.2; rw [← hdl0, En.rec_drop] at this; rw [h3]; exact this
      ·
        have hno : ¬ (0 < dl.length ∧ En.ge k (En.rec dl 0) = false) := by assumption
        have hfil := En.drop_filter hs hj hg (by
          rcases Nat.eq_zero_or_pos dl.length with h | h
          · left; omega
          · right
            have h3 : ¬ En.ge k (En.rec dl 0) = false := fun h3 => hno ⟨h, h3⟩
            rw [← hdl0, En.rec_drop] at h3
            simpa using h3)
        refine TC.exit ?_
        refine Thn.exit ?_
        refine Lp.exit ?_
        refine Blk.hit ?_
        refine Thn.go ?_
        refine TC.seq ?_
        refine TC.region ?_
        refine TL.move rfl rfl ?_
        refine TL.buildRec [0, 1] [.tmp 35, .const (Value.bool Bool.true)] ([.slice ad dl.length c, .bool true]) rfl rfl (by kernel_rfl) rfl ?_
        refine TL.box rfl rfl (fun w37 hb37 hc37 hz37 => ?_)
        refine TL.assign rfl rfl ?_
        refine TL.assign rfl rfl ?_
        refine TL.done ?_
        refine Thn.go ?_
        refine TC.ret ?_
        refine Ends.ret [6, 7] rfl rfl ?_
        exact ⟨⟨_, rfl, fun h => absurd rfl h, fun _ => ⟨_, _, rfl, by have := hc13.size; have := hch.size; omega, hb37, by rw [hfil, hdl0]; exact hrd.ch0 hc37, fun b hb => ⟨(hbk b (by rw [hdl0]; exact hb)).1, by have := (hbk b (by rw [hdl0]; exact hb)).2; have := hch.size; omega, by have := (hbk b (by rw [hdl0]; exact hb)).2; have := hch.size; have := hc37.size; omega⟩⟩⟩, hc13.trans0 (hch.trans0 hc37)⟩

theorem fn23 (H : Nat) (v : Value) (l : List En.Entry) (w : World) (hH : Has w H #[v, .bool true] 51 (0, 0)) (hl : Rd w v 4 l.length (l.flatMap cl)) (hb : ∀ b, v.ownBlock = some b → b ≠ H ∧ b < w.heap.size) : Rets Try.prog 23 #[.pointer (some ⟨H, 0, none⟩)] w (fun r w' => r = .tuple #[.agg (cl (En.rec l 0)).toArray, .bool (decide (0 < l.length)), .int .i64 0] ∧ (∃ v', Has w' H #[v', .bool true] 51 (0, 0) ∧ Rd w' v' 4 (l.drop 1).length ((l.drop 1).flatMap cl) ∧ ∀ b, v'.ownBlock = some b → b ≠ H ∧ b < w.heap.size) ∧ Ch [H] w w') := by
  obtain ⟨ad, c, rfl, _⟩ := hl.shape
  have hHl := hH.lt
  refine Rets.of (n := 38) (vs := [_]) Try.func23 rfl rfl rfl ?_
  refine TC.seq ?_
  refine TC.region ?_
  refine TL.alloc ze32 rfl (fun w2 hb2 hc2 hz2 => ?_)
  refine TL.assign rfl rfl ?_
  refine TL.assign rfl rfl ?_
  refine TL.done ?_
  refine Thn.go ?_
  refine TC.seq ?_
  refine TC.seq ?_
  refine TC.region ?_
  refine TL.move rfl rfl ?_
  refine TL.eqlPtrNil Try.underlying43 rfl rfl rfl ?_
  refine TL.no (by simp) ?_
  refine TL.move rfl rfl ?_
  refine TL.guardYes (d := 8) rfl rfl rfl ?_
  refine TL.move rfl rfl ?_
  refine TL.guardYes (d := 8) rfl rfl rfl ?_
  refine TL.nilCheck rfl rfl ?_
  refine TL.guardYes (d := 8) rfl rfl rfl ?_
  refine TL.fieldAddr fd51k1 rfl rfl ?_
  refine TL.guardYes (d := 8) rfl rfl rfl ?_
  refine TL.load pl4 rfl ((hH.ch0 hc2).cell 1) rfl ?_
  refine TL.guardYes (d := 8) rfl rfl rfl ?_
  refine TL.not rfl rfl ?_
  refine TL.pickF rfl rfl rfl rfl ?_
  refine TL.done ?_
  refine Thn.go ?_
  refine TC.condF rfl rfl ?_
  refine TC.skip ?_
  refine Thn.go ?_
  refine TC.seq ?_
  refine TC.seq ?_
  refine TC.region ?_
  refine TL.move rfl rfl ?_
  refine TL.nilCheck rfl rfl ?_
  refine TL.fieldAddr fd51k0 rfl rfl ?_
  refine TL.load pl25 rfl ((hH.ch0 hc2).cell 0) rfl ?_
  refine TL.lenSlice Try.underlying25 rfl rfl ?_
  refine TL.eql rfl rfl rfl ?_
  refine TL.done ?_
  refine Thn.go ?_
  refine TC.condP rfl (fun h2 => ?_) (fun h2 => ?_)
  ·
    have hl0 : l = [] := List.eq_nil_of_length_eq_zero (by omega)
    refine TC.seq ?_
    refine TC.region ?_
    refine TL.buildRec [] [] (cl e0) rfl rfl (by kernel_rfl) rfl ?_
    refine TL.store sz32 rfl rfl rfl hb2 (by simp [Value.cells]) (by simpa [Value.cells] using cl_one e0) (.inl rfl) (fun ws1 hbs1 hcs1 hzs1 => ?_)
    replace hbs1 : Has ws1 w.heap.size (cl e0).toArray 32 (0, 0) := hbs1.setAll rfl
    refine TL.assign rfl rfl ?_
    refine TL.assign rfl rfl ?_
    refine TL.done ?_
    refine Thn.go ?_
    refine TC.ret ?_
    refine Thn.ret ?_
    refine Ends.cell3 (cl e0) (.inl rfl) rfl ag32 rfl rfl (fun j _ => by rw [hbs1.cell, Nat.zero_add, List.getElem?_toArray]) rfl rfl ?_
    exact ⟨by rw [hl0, rec_nil]; rfl, ⟨_, (hH.ch0 (hc2.then1 hcs1 (Nat.le_refl _))), by rw [hl0]; exact (hl.ch0 (hc2.then1 hcs1 (Nat.le_refl _))) |> fun h => by rw [hl0] at h; exact h, hb⟩, (hc2.then1 hcs1 (Nat.le_refl _)).weaken (by simp)⟩
  ·
    have hl1 : 0 < l.length := by omega
    refine TC.skip ?_
    refine Thn.go ?_
    refine TC.seq ?_
    refine TC.region ?_
    refine TL.move rfl rfl ?_
    refine TL.nilCheck rfl rfl ?_
    refine TL.fieldAddr fd51k0 rfl rfl ?_
    refine TL.load pl25 rfl ((hH.ch0 hc2).cell 0) rfl ?_
    obtain ⟨b1, o1, rfl, hea⟩ := recAll (hl.ch0 hc2) hl1
    refine TL.indexAddr (0) sl25 rfl rfl rfl hl1 rfl ?_
    refine TL.loadAgg (cl (En.rec l 0)) ag32 rfl rfl (fun j hj => hea 0 hl1 _ (Ch.refl _ _) j hj) rfl ?_
    refine TL.alloc ze32 rfl (fun w5 hb5 hc5 hz5 => ?_)
    refine TL.store sz32 rfl rfl rfl hb5 (by simp [Value.cells]) (by simpa [Value.cells] using cl_one (En.rec l 0)) (.inl rfl) (fun ws2 hbs2 hcs2 hzs2 => ?_)
    replace hbs2 : Has ws2 w2.heap.size (cl (En.rec l 0)).toArray 32 (0, 0) := hbs2.setAll rfl
    have q2 : Ch [] w2 ws2 := hc5.then1 hcs2 (Nat.le_refl _)
    refine TL.done ?_
    refine Thn.go ?_
    refine TC.seq ?_
    refine TC.region ?_
    refine TL.move rfl rfl ?_
    refine TL.move rfl rfl ?_
    refine TL.nilCheck rfl rfl ?_
    refine TL.fieldAddr fd51k0 rfl rfl ?_
    refine TL.load pl25 rfl (((hH.ch0 hc2).ch0 q2).cell 0) rfl ?_
    refine TL.sliceFrom (1) sl25 rfl rfl rfl hl1 rfl ?_
    refine TL.nilCheck rfl rfl ?_
    refine TL.fieldAddr fd51k0 rfl rfl ?_
    refine TL.store sz25 rfl rfl rfl ((hH.ch0 hc2).ch0 q2) (by simp) (by simp [Value.cells, Value.oneCell']) (.inl rfl) (fun ws3 hbs3 hcs3 hzs3 => ?_)
    replace hbs3 : Has ws3 H #[.slice (adv (some ⟨b1, o1, none⟩) c 1 4) (l.length - 1) (c - 1), .bool true] 51 (0, 0) := hbs3
    have q3 : Ch [H] w ws3 := (hc2.trans0 q2).trans hcs3 (by simp) (fun x h _ => h)
    refine TL.done ?_
    refine Thn.go ?_
    refine TC.seq ?_
    refine TC.region ?_
    refine TL.loadAgg (cl (En.rec l 0)) ag32 rfl rfl (fun j _ => by rw [(hbs2.ch hcs3 (by simp; omega)).cell, Nat.zero_add, List.getElem?_toArray]) rfl ?_
    refine TL.store sz32 rfl rfl rfl ((hb2.ch0 q2).ch hcs3 (by simp; omega)) (by simp [Value.cells]) (by simpa [Value.cells] using cl_one (En.rec l 0)) (.inl rfl) (fun ws4 hbs4 hcs4 hzs4 => ?_)
    replace hbs4 : Has ws4 w.heap.size (cl (En.rec l 0)).toArray 32 (0, 0) := hbs4.setAll rfl
    refine TL.assign rfl rfl ?_
    refine TL.assign rfl rfl ?_
    refine TL.done ?_
    refine Thn.go ?_
    refine TC.ret ?_
    refine Ends.cell3 (cl (En.rec l 0)) (.inl rfl) rfl ag32 rfl rfl (fun j _ => by rw [hbs4.cell, Nat.zero_add, List.getElem?_toArray]) rfl rfl ?_
    exact ⟨by rw [decide_eq_true hl1], ⟨_, hbs3.ch hcs4 (by simp; omega), ((suffixRd hl (i := 1) hl1).ch q3 (fun b h1 h2 => by simp at h2; exact (hb b (adv_own h1)).1 h2)).ch hcs4 (fun b h1 h2 => by simp at h2; have := (hb b (adv_own h1)).2; omega), fun b h1 => hb b (adv_own h1)⟩, q3.trans hcs4 (fun x h _ => h) (fun x h _ => by simp at h; omega)⟩

theorem fn23c (H : Nat) (v : Value) (x : En.Entry) (l : List En.Entry) (w : World) (hH : Has w H #[v, .bool true] 51 (0, 0)) (hl : Rd w v 4 (x :: l).length ((x :: l).flatMap cl)) (hb : ∀ b, v.ownBlock = some b → b ≠ H ∧ b < w.heap.size) : Rets Try.prog 23 #[.pointer (some ⟨H, 0, none⟩)] w (fun r w' => r = .tuple #[.agg (cl x).toArray, .bool true, .int .i64 0] ∧ (∃ v', Has w' H #[v', .bool true] 51 (0, 0) ∧ Rd w' v' 4 l.length (l.flatMap cl) ∧ ∀ b, v'.ownBlock = some b → b ≠ H ∧ b < w.heap.size) ∧ Ch [H] w w') :=
  (fn23 H v (x :: l) w hH hl hb).mono fun _ _ ⟨h1, h2, h3⟩ => ⟨h1, h2, h3⟩
theorem fn23e (H : Nat) (v : Value) (w : World) (hH : Has w H #[v, .bool true] 51 (0, 0)) (hl : Rd w v 4 0 []) (hb : ∀ b, v.ownBlock = some b → b ≠ H ∧ b < w.heap.size) : Rets Try.prog 23 #[.pointer (some ⟨H, 0, none⟩)] w (fun r w' => r = .tuple #[.agg (cl e0).toArray, .bool false, .int .i64 0] ∧ (∃ v', Has w' H #[v', .bool true] 51 (0, 0) ∧ Rd w' v' 4 0 [] ∧ ∀ b, v'.ownBlock = some b → b ≠ H ∧ b < w.heap.size) ∧ Ch [H] w w') :=
  (fn23 H v [] w hH hl hb).mono fun _ _ ⟨h1, h2, h3⟩ => ⟨h1.trans (by rw [rec_nil]; rfl), h2, h3⟩

