/-
  Walks through the given program: each theorem fnN says what the call of function N of the translation hands back, for all arguments that its premises describe, and that nothing that was there has turned.
-/
import Derived.Test.YteogahcefkepaaaS5
namespace Go.Proofs.Yteogahcefkepaaa
open Go.Lane

theorem feet_put {Q : Nat} {hd : Nd} {N N' : List Nd} {z : Nat} (hf : ∀ b ∈ feet N', b ∈ feet N ∨ z ≤ b) : ∀ b ∈ Q :: feet (hd :: N'), b ∈ Q :: feet (hd :: N) ∨ z ≤ b := fun b hb => by
  have e : ∀ M : List Nd, feet (hd :: M) = hd.p :: hd.m :: feet M := fun M => rfl
  rw [e] at hb ⊢
  simp only [List.mem_cons] at hb ⊢
  rcases hb with hm | hm | hm | hm
  · exact .inl (.inl hm)
  · exact .inl (.inr (.inl hm))
  · exact .inl (.inr (.inr (.inl hm)))
  · rcases hf b hm with h3 | h3
    · exact .inl (.inr (.inr (.inr h3)))
    · exact .inr h3
theorem rec_rev {l : List En.Entry} {i : Nat} (h : i < l.length) : En.rec l.reverse i = En.rec l (l.length - 1 - i) := by
  rw [← En.rec_eq (by simpa using h), ← En.rec_eq (by omega), List.getElem_reverse]

theorem fn5 (av : Value) (l : List En.Entry) (w : World) (ha : Rd w av 4 l.length (l.flatMap cl)) : Rets Try.prog 5 #[av] w (fun r w' => r = .bool true ∧ Ch [] w w') := by
  obtain ⟨ad, c, rfl, _⟩ := ha.shape
  have hmm : maxLen = 9223372036854775807 := rfl
  refine Rets.of (n := 72) (vs := [_]) Try.func5 rfl rfl rfl ?_
  refine TC.seq ?_
  refine TC.region ?_
  refine TL.assign rfl rfl ?_
  refine TL.done ?_
  refine Thn.go ?_
  refine TC.seq ?_
  refine TC.region ?_
  refine TL.call can20 rfl rfl (fn20 w) (fun v12 w12 hr12 => ?_)
  obtain ⟨rfl, hc12⟩ := hr12
  refine TL.assign rfl rfl ?_
  refine TL.done ?_
  refine Thn.go ?_
  refine TC.seq ?_
  refine TC.seq ?_
  refine TC.region ?_
  refine TL.move rfl rfl ?_
  refine TL.not rfl rfl ?_
  refine TL.done ?_
  refine Thn.go ?_
  refine TC.condF rfl rfl ?_
  refine TC.skip ?_
  refine Thn.go ?_
  refine TC.seq ?_
  refine TC.seq ?_
  refine TC.region ?_
  refine TL.move rfl rfl ?_
  refine TL.lenSlice Try.underlying22 rfl rfl ?_
  refine TL.gtr rfl rfl rfl ?_
  refine TL.done ?_
  refine Thn.go ?_
  refine TC.condP rfl (fun h2 => ?_) (fun h2 => ?_)
  ·
    refine TC.seq ?_
    refine TC.region ?_
    refine TL.move rfl rfl ?_
    refine TL.assign rfl rfl ?_
    refine TL.done ?_
    refine Thn.go ?_
    refine TC.ret ?_
    refine Thn.ret ?_
    refine Ends.ret [2] rfl rfl ?_
    exact ⟨rfl, hc12⟩
  ·
    have hl200 : l.length ≤ 200 := by omega
    refine TC.skip ?_
    refine Thn.go ?_
    refine TC.seq ?_
    refine TC.region ?_
    refine TL.call can9 rfl rfl (fn9 w12) (fun v19 w19 hr19 => ?_)
    obtain ⟨A, ah, rfl, hSa0, hga0, hc19⟩ := hr19
    refine TL.call can9 rfl rfl (fn9 w19) (fun v20 w20 hr20 => ?_)
    obtain ⟨B, bh, rfl, hSb0, hgb0, hc20⟩ := hr20
    have q20 := hc12.trans0 (hc19.trans0 hc20)
    have hA0 : ∀ b ∈ A :: feet [ah], w.heap.size ≤ b := fun b hb => by have := hga0 b hb; have := hc12.size; omega
    have hB0 : ∀ b ∈ B :: feet [bh], w.heap.size ≤ b := fun b hb => by have := hgb0 b hb; have := hc12.size; have := hc19.size; omega
    have hD0 : ∀ b ∈ B :: feet [bh], b ∉ A :: feet [ah] := fun b hb hm => by have := hgb0 b hb; have := hSa0.lt b hm; omega
    refine TL.assign rfl rfl ?_
    refine TL.assign rfl rfl ?_
    refine TL.done ?_
    refine Thn.go ?_
    refine TC.seq ?_
    refine TC.seq ?_
    refine TC.region ?_
    refine TL.assign rfl rfl ?_
    refine TL.done ?_
    refine Thn.go ?_
    refine TC.block ?_
    refine TC.loop1 (fun (i : Nat) => [(0, .slice ad l.length c), (3, .bool true), (4, .pointer (some ⟨A, 0, none⟩)), (5, .pointer (some ⟨B, 0, none⟩)), (6, .int .i64 (i : Int))]) (fun i w' => i ≤ l.length ∧ (∀ j, j < i → En.putE (En.rowL (l.take j)) (En.rec l j) ≠ 100) ∧ (∃ N, Sk w' A ah N ∧ exs N = En.rowL (l.take i) ∧ (∀ b ∈ A :: feet (ah :: N), w.heap.size ≤ b) ∧ (∀ b ∈ B :: feet [bh], b ∉ A :: feet (ah :: N))) ∧ Sk w' B bh [] ∧ Ch [] w w') (fun i => l.length - i) 0 (by repeat (first | exact trivial | refine ⟨rfl, ?_⟩)) (⟨by omega, fun j hj => by omega, ⟨[], hSa0.ch0 hc20, rfl, hA0, hD0⟩, hSb0, q20⟩) (fun i w' hI => ?_)
    obtain ⟨hi, hno, ⟨N, hSk, hN, hbg, hdis⟩, hSb, hch⟩ := hI
    obtain ⟨R, hR⟩ : ∃ R, En.rowL (l.take i) = R := ⟨_, rfl⟩
    have hRc : En.checkE R = 0 := by rw [← hR]; exact En.row_check _
    rw [hR] at hN
    refine TC.seq ?_
    refine TC.seq ?_
    refine TC.region ?_
    refine TL.move rfl rfl ?_
    refine TL.move rfl rfl ?_
    refine TL.lenSlice Try.underlying22 rfl rfl ?_
    refine TL.lss rfl rfl rfl ?_
    refine TL.done ?_
    refine Thn.go ?_
    refine TC.condP rfl (fun h3 => ?_) (fun h3 => ?_)
    ·
      have hil : i < l.length := by omega
      obtain ⟨b1, o1, rfl, hall⟩ := recIn ha hil
      have hnx := En.row_next hil
      rw [hR] at hnx
      refine TC.skip ?_
      refine Thn.go ?_
      refine TC.seq ?_
      refine TC.block ?_
      refine TC.seq ?_
      refine TC.region ?_
      refine TL.move rfl rfl ?_
      refine TL.move rfl rfl ?_
      refine TL.move rfl rfl ?_
      refine TL.indexAddr (i) sl22 rfl rfl (by first | rfl | omega) (by omega) rfl ?_
      refine TL.loadAgg (cl (En.rec l i)) ag30 rfl rfl (fun j hj => hall _ hch j hj) rfl ?_
      refine TL.call can10 rfl rfl (fn10s A ah N R (En.rec l i) hN hRc w' hSk) (fun v32 w32 hr32 => ?_)
      obtain ⟨rfl, ⟨N2, hSk2, hN2, hft2⟩, hc32⟩ := hr32
      have q32 : Ch [] w w32 := hch.thenS hc32 hbg
      refine TL.eql rfl rfl rfl ?_
      refine TL.done ?_
      refine Thn.go ?_
      refine TC.condP rfl (fun h4 => ?_) (fun h4 => ?_)
      ·
        refine TC.seq ?_
        refine TC.region ?_
        refine TL.move rfl rfl ?_
        refine TL.assign rfl rfl ?_
        refine TL.done ?_
        refine Thn.go ?_
        refine TC.ret ?_
        refine Blk.ret ?_
        refine Thn.ret ?_
        refine Lp.ret ?_
        refine Blk.ret ?_
        refine Thn.ret ?_
        refine Ends.ret [2] rfl rfl ?_
        exact ⟨rfl, q32⟩
      ·
        have hn100 : En.putE R (En.rec l i) ≠ 100 := by omega
        refine TC.skip ?_
        refine Blk.go ?_
        refine Thn.go ?_
        refine TC.region ?_
        refine TL.move rfl rfl ?_
        refine TL.add_i64 rfl rfl (by omega) (by omega) rfl ?_
        refine TL.assign rfl rfl ?_
        refine TL.done ?_
        refine Lp.go (i + 1) (by repeat (first | exact trivial | refine ⟨rfl, ?_⟩)) ?_ (by first | omega | (dsimp only; omega))
        refine ⟨by omega, fun j hj => ?_, ⟨N2, hSk2, by rw [hN2, hnx], fun b hb => ?_, fun b hb hm => ?_⟩, hSb.ch hc32 hdis, q32⟩
        · rcases Nat.lt_or_ge j i with h | h
          · exact hno j h
          · rw [show j = i by omega, hR]; exact hn100
        · rcases feet_put hft2 b hb with h | h
          · exact hbg b h
          · have := hch.size; omega
        · rcases feet_put hft2 b hm with h | h
          · exact hdis b hb h
          · have := hSb.lt b hb; omega
    ·
      have hil : i = l.length := by omega
      rw [hil] at hno
      rw [hil, List.take_length] at hR
      have hrev := En.row_rev (by omega) hno
      refine TC.exit ?_
      refine Thn.exit ?_
      refine Lp.exit ?_
      refine Blk.hit ?_
      refine Thn.go ?_
      refine TC.seq ?_
      refine TC.seq ?_
      refine TC.region ?_
      refine TL.move rfl rfl ?_
      refine TL.lenSlice Try.underlying22 rfl rfl ?_
      refine TL.sub_i64 rfl rfl (by omega) (by omega) rfl ?_
      rw [show (l.length : Int) - 1 = (l.length : Int) - 1 - ((0 : Nat) : Int) by omega]
      refine TL.assign rfl rfl ?_
      refine TL.done ?_
      refine Thn.go ?_
      refine TC.block ?_
      refine TC.loop1 (fun (i : Nat) => [(0, .slice ad l.length c), (3, .bool true), (4, .pointer (some ⟨A, 0, none⟩)), (5, .pointer (some ⟨B, 0, none⟩)), (7, .int .i64 ((l.length : Int) - 1 - (i : Int)))]) (fun i w2 => i ≤ l.length ∧ (∃ M, Sk w2 B bh M ∧ exs M = En.rowL (l.reverse.take i) ∧ (∀ b ∈ B :: feet (bh :: M), w.heap.size ≤ b) ∧ (∀ b ∈ A :: feet (ah :: N), b ∉ B :: feet (bh :: M))) ∧ Sk w2 A ah N ∧ Ch [] w w2) (fun i => l.length - i) 0 (by repeat (first | exact trivial | refine ⟨rfl, ?_⟩)) (⟨by omega, ⟨[], hSb, rfl, hB0, fun b hb hm => hdis b hm hb⟩, hSk, hch⟩) (fun i2 w2 hJ => ?_)
      obtain ⟨hi2, ⟨M, hSm, hM, hbm, hdm⟩, hSa, hch2⟩ := hJ
      have hRb : En.checkE (En.rowL (l.reverse.take i2)) = 0 := En.row_check _
      refine TC.seq ?_
      refine TC.seq ?_
      refine TC.region ?_
      refine TL.move rfl rfl ?_
      refine TL.geq rfl rfl rfl ?_
      refine TL.done ?_
      refine Thn.go ?_
      refine TC.condP rfl (fun h5 => ?_) (fun h5 => ?_)
      ·
        have hil2 : i2 < l.length := by omega
        have hjl : l.length - 1 - i2 < l.length := by omega
        obtain ⟨b1, o1, rfl, hall⟩ := recIn ha hjl
        have hnx := En.row_next (l := l.reverse) (i := i2) (by simpa using hil2)
        rw [rec_rev hil2] at hnx
        refine TC.skip ?_
        refine Thn.go ?_
        refine TC.seq ?_
        refine TC.block ?_
        refine TC.region ?_
        refine TL.move rfl rfl ?_
        refine TL.move rfl rfl ?_
        refine TL.move rfl rfl ?_
        refine TL.indexAddr (l.length - 1 - i2) sl22 rfl rfl (by first | rfl | omega) (by omega) rfl ?_
        refine TL.loadAgg (cl (En.rec l (l.length - 1 - i2))) ag30 rfl rfl (fun j hj => hall _ hch2 j hj) rfl ?_
        refine TL.call can10 rfl rfl (fn10s B bh M _ (En.rec l (l.length - 1 - i2)) hM hRb w2 hSm) (fun v47 w47 hr47 => ?_)
        obtain ⟨rfl, ⟨M2, hSm2, hM2, hft2⟩, hc47⟩ := hr47
        have q47 : Ch [] w w47 := hch2.thenS hc47 hbm
        refine TL.done ?_
        refine Blk.go ?_
        refine Thn.go ?_
        refine TC.region ?_
        refine TL.move rfl rfl ?_
        refine TL.sub_i64 rfl rfl (by omega) (by omega) rfl ?_
        rw [show (l.length : Int) - 1 - (i2 : Int) - 1 = (l.length : Int) - 1 - ((i2 + 1 : Nat) : Int) by omega]
        refine TL.assign rfl rfl ?_
        refine TL.done ?_
        refine Lp.go (i2 + 1) (by repeat (first | exact trivial | refine ⟨rfl, ?_⟩)) ?_ (by first | omega | (dsimp only; omega))
        refine ⟨by omega, ⟨M2, hSm2, by rw [hM2, hnx], fun b hb => ?_, fun b hb hm => ?_⟩, hSa.ch hc47 hdm, q47⟩
        · rcases feet_put hft2 b hb with h | h
          · exact hbm b h
          · have := hch2.size; omega
        · rcases feet_put hft2 b hm with h | h
          · exact hdm b hb h
          · have := hSa.lt b hb; omega
      ·
        have hil2 : i2 = l.length := by omega
        rw [hil2, List.take_of_length_le (by simp), hrev, hR] at hM
        have hRl : R.length ≤ 200 := by have := En.row_len l; rw [hR] at this; omega
        refine TC.exit ?_
        refine Thn.exit ?_
        refine Lp.exit ?_
        refine Blk.hit ?_
        refine Thn.go ?_
        refine TC.seq ?_
        refine TC.region ?_
        refine TL.move rfl rfl ?_
        refine TL.call can14 rfl rfl (fn14 A ah N (by rw [← exs_len, hN]; omega) w2 hSa) (fun v50 w50 hr50 => ?_)
        rw [hN] at hr50
        obtain ⟨o50, rfl, hv50, hc50⟩ := hr50
        refine TL.move rfl rfl ?_
        refine TL.extract rfl rfl rfl ?_
        refine TL.extract rfl rfl rfl ?_
        refine TL.assign rfl rfl ?_
        refine TL.assign rfl rfl ?_
        refine TL.done ?_
        refine Thn.go ?_
        refine TC.seq ?_
        refine TC.region ?_
        refine TL.move rfl rfl ?_
        refine TL.call can14 rfl rfl (fn14 B bh M (by rw [← exs_len, hM]; omega) w50 (hSm.ch0 hc50)) (fun v55 w55 hr55 => ?_)
        rw [hM] at hr55
        obtain ⟨o55, rfl, hv55, hc55⟩ := hr55
        refine TL.move rfl rfl ?_
        refine TL.extract rfl rfl rfl ?_
        refine TL.extract rfl rfl rfl ?_
        refine TL.assign rfl rfl ?_
        refine TL.assign rfl rfl ?_
        refine TL.done ?_
        refine Thn.go ?_
        refine TC.seq ?_
        refine TC.region ?_
        refine TL.move rfl rfl ?_
        refine TL.move rfl rfl ?_
        refine TL.guardYes (d := 59) rfl rfl rfl ?_
        refine TL.move rfl rfl ?_
        refine TL.guardYes (d := 59) rfl rfl rfl ?_
        refine TL.eql rfl rfl rfl ?_
        refine TL.yes (rfl) ?_
        refine TL.pickT rfl rfl rfl rfl ?_
        refine TL.move rfl rfl ?_
        refine TL.guardYes (d := 63) rfl rfl rfl ?_
        refine TL.move rfl rfl ?_
        refine TL.guardYes (d := 63) rfl rfl rfl ?_
        refine TL.eql rfl rfl rfl ?_
        refine TL.yes (rfl) ?_
        refine TL.pickT rfl rfl rfl rfl ?_
        refine TL.move rfl rfl ?_
        refine TL.guardYes (d := 67) rfl rfl rfl ?_
        refine TL.move rfl rfl ?_
        refine TL.guardYes (d := 67) rfl rfl rfl ?_
        refine TL.move rfl rfl ?_
        refine TL.guardYes (d := 67) rfl rfl rfl ?_
        refine TL.call can21 rfl rfl (fn21 _ _ R R w55 (Rd.ofOwn (hv50.ch0 hc55)) (Rd.ofOwn hv55)) (fun v70 w70 hr70 => ?_)
        obtain ⟨rfl, hc70⟩ := hr70
        refine TL.pickT rfl rfl rfl rfl ?_
        refine TL.assign rfl rfl ?_
        refine TL.done ?_
        refine Thn.go ?_
        refine TC.ret ?_
        refine Ends.ret [2] rfl rfl ?_
        exact ⟨by first | rfl | (simp; rfl), hch2.trans0 (hc50.trans0 (hc55.trans0 hc70))⟩

