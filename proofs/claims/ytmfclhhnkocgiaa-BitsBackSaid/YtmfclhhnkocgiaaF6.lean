/-
  Walks through the given program: each theorem fnN says what the call of function N of the translation hands back, for all arguments that its premises describe, and that nothing that was there has turned.
-/
import Derived.Test.YtmfclhhnkocgiaaF5
namespace Go.Proofs.Ytmfclhhnkocgiaa
open Go.Lane
theorem sl49 : SliceT Try.prog 49 22 1 24 (.slice none 0 0) := SliceT.mk' Try.underlying49 (by kernel_rfl) rfl rfl
theorem pl22 : Plain Try.prog 22 := ⟨_, Try.underlying22, rfl⟩

theorem sm0 : Bits.small (0 : UInt64).toNat = [0] := by rw [Bits.small_lt (by decide)]; rfl
theorem sm127 : Bits.small (127 : UInt64).toNat = [127] := by rw [Bits.small_lt (by decide)]; rfl
theorem sm128 : Bits.small (128 : UInt64).toNat = [128, 1] := by rw [Bits.small_ge (by decide), Bits.small_lt (by decide)]; rfl
theorem smAll : Bits.small (18446744073709551615 : UInt64).toNat = [255, 255, 255, 255, 255, 255, 255, 255, 255, 1] := by
  rw [Bits.small_ge (by decide), Bits.small_ge (by decide), Bits.small_ge (by decide), Bits.small_ge (by decide), Bits.small_ge (by decide), Bits.small_ge (by decide), Bits.small_ge (by decide), Bits.small_ge (by decide), Bits.small_ge (by decide), Bits.small_lt (by decide)]; rfl
theorem txAb : Bits.text [97, 98] = [2, 97, 98] := by rw [Bits.text, Bits.small_lt (by decide)]; rfl

theorem fn10 (n : UInt64) (s : List UInt8) (a : Value) (l : List UInt8) (w : World) (ha : Rd w a 1 l.length (l.map u8)) : Rets Try.prog 10 #[u64 n, str s, a] w (fun v w' => v = .bool true ∧ Ch [] w w') := by
  obtain ⟨ad, c, rfl, hnil⟩ := ha.shape
  have hmm : maxLen = 9223372036854775807 := rfl
  refine Rets.of (n := 94) (vs := [_, _, _]) Try.func10 rfl rfl rfl ?_
  refine TC.seq ?_
  refine TC.region ?_
  refine TL.assign rfl rfl ?_
  refine TL.done ?_
  refine Thn.go ?_
  refine TC.seq ?_
  refine TC.region ?_
  refine TL.call can11 rfl rfl (fn11 w) (fun v17 w17 hr17 => ?_)
  obtain ⟨rfl, hc17⟩ := hr17
  refine TL.assign rfl rfl ?_
  refine TL.done ?_
  refine Thn.go ?_
  refine TC.seq ?_
  refine TC.seq ?_
  refine TC.region ?_
  refine TL.move rfl rfl ?_
  refine TL.not rfl rfl ?_
  refine TL.done ?_
  refine Thn.go ?_
  refine TC.condF rfl rfl ?_
  refine TC.skip ?_
  refine Thn.go ?_
  refine TC.seq ?_
  refine TC.regionBool (d := 27) (p := (10000 < s.length ∨ 10000 < l.length)) (fun K2 hK2 => ?_) ?_
  ·
    refine TL.move rfl rfl ?_
    refine TL.lenStr Try.underlying9 rfl rfl ?_
    refine TL.gtr rfl rfl rfl ?_
    refine TL.em (fun e22 => ?_) (fun e22 => ?_)
    ·
      refine TL.move rfl rfl ?_
      refine TL.guardNo (d := 23) rfl rfl rfl rfl rfl ?_
      refine TL.guardNo (d := 23) rfl rfl rfl rfl rfl ?_
      refine TL.guardNo (d := 23) rfl rfl rfl rfl rfl ?_
      refine TL.pickT rfl rfl rfl rfl ?_
      refine TL.done ?_
      refine hK2 _ ?_
      refine Le.here rfl (by first | exact decide_eq_true (by omega) | exact decide_eq_false (by omega) | exact decide_eq_decide.2 (by omega)) ?_
      repeat (first | exact Le.refl _ | refine Le.skip rfl ?_)
    ·
      refine TL.move rfl rfl ?_
      refine TL.guardYes (d := 23) rfl rfl rfl ?_
      refine TL.move rfl rfl ?_
      refine TL.guardYes (d := 23) rfl rfl rfl ?_
      refine TL.lenSlice Try.underlying22 rfl rfl ?_
      refine TL.guardYes (d := 23) rfl rfl rfl ?_
      refine TL.gtr rfl rfl rfl ?_
      refine TL.pickF rfl rfl rfl rfl ?_
      refine TL.done ?_
      refine hK2 _ ?_
      refine Le.here rfl (by first | exact decide_eq_true (by omega) | exact decide_eq_false (by omega) | exact decide_eq_decide.2 (by omega)) ?_
      repeat (first | exact Le.refl _ | refine Le.skip rfl ?_)
  refine TC.condP rfl (fun h4 => ?_) (fun h4 => ?_)
  ·
    refine TC.seq ?_
    refine TC.region ?_
    refine TL.move rfl rfl ?_
    refine TL.assign rfl rfl ?_
    refine TL.done ?_
    refine Thn.go ?_
    refine TC.ret ?_
    refine Thn.ret ?_
    refine Ends.ret [6] rfl rfl ?_
    exact ⟨rfl, hc17⟩
  ·
    refine TC.skip ?_
    refine Thn.go ?_
    refine TC.seq ?_
    refine TC.region ?_
    refine TL.move rfl rfl ?_
    refine TL.call can14 rfl rfl (fn14 n w17) (fun v31 w31 hr31 => ?_)
    obtain ⟨b31, rfl, hb31, hh31, hc31⟩ := hr31
    refine TL.call can15 rfl rfl (fn15 _ (Bits.put n) w31 (Rd.ofHas hh31 (by decide) (by simp [Bits.put_len]) rfl)) (fun v32 w32 hr32 => ?_)
    obtain ⟨rfl, hc32⟩ := hr32
    rw [Bits.getN_put, Bits.getE_put]
    refine TL.move rfl rfl ?_
    refine TL.extract rfl rfl rfl ?_
    refine TL.extract rfl rfl rfl ?_
    refine TL.assign rfl rfl ?_
    refine TL.assign rfl rfl ?_
    refine TL.done ?_
    refine Thn.go ?_
    refine TC.seq ?_
    refine TC.region ?_
    refine TL.move rfl rfl ?_
    refine TL.call can13 rfl rfl (fn13 n w32) (fun v36 w36 hr36 => ?_)
    obtain ⟨hv36, hc36⟩ := hr36
    have hten := Bits.small_len64 n
    have z36 := hc36.size
    have q36 : Ch [] w w36 := ((hc17.trans0 hc31).trans0 hc32).trans0 hc36
    refine TL.assign rfl rfl ?_
    refine TL.done ?_
    refine Thn.go ?_
    refine TC.seq ?_
    refine TC.region ?_
    refine TL.move rfl rfl ?_
    refine TL.move rfl rfl ?_
    refine TL.append sl22 rfl rfl rfl (hv36) (News.ofRd Try.underlying22 (ha.ch0 q36) (one_u8 _)) (by omega) (by omega) (by omega) (fun v40 w40 hv40 hc40 _ => ?_)
    have q40 : Ch [] w w40 := ((hc17.trans0 hc31).trans0 hc32).trans0 (hv36.thenCh hc36 hc40)
    refine TL.call can17 rfl rfl (fn17 v40 (Bits.small n.toNat ++ l) w40 (Rd.bytes _ (Rd.ofOwn hv40) (by simp) (by simp))) (fun v41 w41 hr41 => ?_)
    obtain ⟨rfl, rfl⟩ := hr41
    rw [Bits.read_small n.toNat (UInt64.toNat_lt n) l]
    refine TL.move rfl rfl ?_
    refine TL.extract rfl rfl rfl ?_
    refine TL.extract rfl rfl rfl ?_
    refine TL.extract rfl rfl rfl ?_
    refine TL.assign rfl rfl ?_
    refine TL.assign rfl rfl ?_
    refine TL.assign rfl rfl ?_
    refine TL.done ?_
    refine Thn.go ?_
    refine TC.seq ?_
    refine TC.region ?_
    refine TL.move rfl rfl ?_
    refine TL.call can24 rfl rfl (fn24 s (by omega) w41) (fun v47 w47 hr47 => ?_)
    obtain ⟨hv47, hc47⟩ := hr47
    have z47 := hc47.size
    have q47 := q40.trans0 hc47
    have htl : (Bits.text s).length ≤ 20000 := by
      have h1 := Bits.small_len64 (UInt64.ofNat s.length)
      rw [show (UInt64.ofNat s.length).toNat = s.length by rw [UInt64.toNat_ofNat']; omega] at h1
      rw [Bits.text, List.length_append]; omega
    refine TL.move rfl rfl ?_
    refine TL.append sl22 rfl rfl rfl (hv47) (News.ofRd Try.underlying22 (ha.ch0 q47) (one_u8 _)) (by omega) (by omega) (by omega) (fun v49 w49 hv49 hc49 _ => ?_)
    have q49 : Ch [] w w49 := q40.trans0 (hv47.thenCh hc47 hc49)
    refine TL.call can22 rfl rfl (fn22 v49 (Bits.text s ++ l) (by rw [List.length_append]; omega) w49 (Rd.bytes _ (Rd.ofOwn hv49) (by simp) (by simp))) (fun v50 w50 hr50 => ?_)
    obtain ⟨r50, rfl, hv50, hc50⟩ := hr50
    have hcut := Bits.cut_text s l (by omega)
    rw [show Bits.cutS (Bits.text s ++ l) = s by unfold Bits.cutS; rw [hcut], show Bits.cutE (Bits.text s ++ l) = 0 by unfold Bits.cutE; rw [hcut]]
    rw [show Bits.cutR (Bits.text s ++ l) = l by unfold Bits.cutR; rw [hcut]] at hv50
    refine TL.move rfl rfl ?_
    refine TL.extract rfl rfl rfl ?_
    refine TL.extract rfl rfl rfl ?_
    refine TL.extract rfl rfl rfl ?_
    refine TL.assign rfl rfl ?_
    refine TL.assign rfl rfl ?_
    refine TL.assign rfl rfl ?_
    refine TL.done ?_
    refine Thn.go ?_
    refine TC.seq ?_
    refine TC.region ?_
    refine TL.move rfl rfl ?_
    refine TL.move rfl rfl ?_
    refine TL.guardYes (d := 55) rfl rfl rfl ?_
    refine TL.move rfl rfl ?_
    refine TL.guardYes (d := 55) rfl rfl rfl ?_
    refine TL.move rfl rfl ?_
    refine TL.guardYes (d := 55) rfl rfl rfl ?_
    refine TL.eql rfl rfl rfl ?_
    refine TL.yes (rfl) ?_
    refine TL.pickT rfl rfl rfl rfl ?_
    refine TL.move rfl rfl ?_
    refine TL.guardYes (d := 60) rfl rfl rfl ?_
    refine TL.move rfl rfl ?_
    refine TL.guardYes (d := 60) rfl rfl rfl ?_
    refine TL.eql rfl rfl rfl ?_
    refine TL.yes (rfl) ?_
    refine TL.pickT rfl rfl rfl rfl ?_
    refine TL.move rfl rfl ?_
    refine TL.guardYes (d := 64) rfl rfl rfl ?_
    refine TL.move rfl rfl ?_
    refine TL.guardYes (d := 64) rfl rfl rfl ?_
    refine TL.move rfl rfl ?_
    refine TL.guardYes (d := 64) rfl rfl rfl ?_
    refine TL.eql rfl rfl rfl ?_
    refine TL.yes (by rw [show Bits.rdN (some (n.toNat, (Bits.small n.toNat).length)) = n.toNat from rfl, UInt64.ofNat_toNat]) ?_
    refine TL.pickT rfl rfl rfl rfl ?_
    refine TL.move rfl rfl ?_
    refine TL.guardYes (d := 69) rfl rfl rfl ?_
    refine TL.move rfl rfl ?_
    refine TL.guardYes (d := 69) rfl rfl rfl ?_
    refine TL.move rfl rfl ?_
    refine TL.guardYes (d := 69) rfl rfl rfl ?_
    refine TL.call can13 rfl rfl (fn13 n w50) (fun v72 w72 hr72 => ?_)
    obtain ⟨hv72, hc72⟩ := hr72
    obtain ⟨a72, c72, rfl, _⟩ := hv72.shape
    refine TL.guardYes (d := 69) rfl rfl rfl ?_
    refine TL.lenSlice Try.underlying22 rfl rfl ?_
    refine TL.guardYes (d := 69) rfl rfl rfl ?_
    refine TL.eql rfl rfl rfl ?_
    refine TL.yes (rfl) ?_
    refine TL.pickT rfl rfl rfl rfl ?_
    refine TL.move rfl rfl ?_
    refine TL.guardYes (d := 76) rfl rfl rfl ?_
    refine TL.move rfl rfl ?_
    refine TL.guardYes (d := 76) rfl rfl rfl ?_
    refine TL.eql rfl rfl rfl ?_
    refine TL.yes (rfl) ?_
    refine TL.pickT rfl rfl rfl rfl ?_
    refine TL.move rfl rfl ?_
    refine TL.guardYes (d := 80) rfl rfl rfl ?_
    refine TL.move rfl rfl ?_
    refine TL.guardYes (d := 80) rfl rfl rfl ?_
    refine TL.move rfl rfl ?_
    refine TL.guardYes (d := 80) rfl rfl rfl ?_
    refine TL.eqlStr rfl rfl rfl ?_
    refine TL.yes (rfl) ?_
    refine TL.pickT rfl rfl rfl rfl ?_
    refine TL.move rfl rfl ?_
    refine TL.guardYes (d := 85) rfl rfl rfl ?_
    refine TL.move rfl rfl ?_
    refine TL.guardYes (d := 85) rfl rfl rfl ?_
    refine TL.move rfl rfl ?_
    refine TL.guardYes (d := 85) rfl rfl rfl ?_
    refine TL.call can27 rfl rfl (fn27 _ _ l l w72 (Rd.ofOwn (hv50.ch0 hc72)) (ha.ch0 ((q49.trans0 hc50).trans0 hc72))) (fun v88 w88 hr88 => ?_)
    obtain ⟨rfl, rfl⟩ := hr88
    refine TL.yes (rfl) ?_
    refine TL.pickT rfl rfl rfl rfl ?_
    refine TL.move rfl rfl ?_
    refine TL.guardYes (d := 90) rfl rfl rfl ?_
    refine TL.move rfl rfl ?_
    refine TL.guardYes (d := 90) rfl rfl rfl ?_
    refine TL.eql rfl rfl rfl ?_
    refine TL.yes (rfl) ?_
    refine TL.pickT rfl rfl rfl rfl ?_
    refine TL.assign rfl rfl ?_
    refine TL.done ?_
    refine Thn.go ?_
    refine TC.ret ?_
    refine Ends.ret [6] rfl rfl ?_
    exact ⟨rfl, (q49.trans0 hc50).trans0 hc72⟩

theorem fn8 (a : Value) (l : List UInt8) (w : World) (ha : Rd w a 1 l.length (l.map u8)) : Rets Try.prog 8 #[a] w (fun v w' => v = .bool true ∧ Ch [] w w') := by
  obtain ⟨ad, c, rfl, hnil⟩ := ha.shape
  have hmm : maxLen = 9223372036854775807 := rfl
  have hK := Bits.rdK_le l
  have hN := Bits.rdN_lt l
  have hn : (UInt64.ofNat (Bits.rdN (Bits.read l))).toNat = Bits.rdN (Bits.read l) := by rw [UInt64.toNat_ofNat']; omega
  have hro := Bits.read_facts l
  have hcap := ha.cap
  have hcf := Bits.cut_facts l
  refine Rets.of (n := 88) (vs := [_]) Try.func8 rfl rfl rfl ?_
  refine TC.seq ?_
  refine TC.region ?_
  refine TL.assign rfl rfl ?_
  refine TL.done ?_
  refine Thn.go ?_
  refine TC.seq ?_
  refine TC.region ?_
  refine TL.call can11 rfl rfl (fn11 w) (fun v10 w10 hr10 => ?_)
  obtain ⟨rfl, hc10⟩ := hr10
  refine TL.assign rfl rfl ?_
  refine TL.done ?_
  refine Thn.go ?_
  refine TC.seq ?_
  refine TC.seq ?_
  refine TC.region ?_
  refine TL.move rfl rfl ?_
  refine TL.not rfl rfl ?_
  refine TL.done ?_
  refine Thn.go ?_
  refine TC.condF rfl rfl ?_
  refine TC.skip ?_
  refine Thn.go ?_
  refine TC.seq ?_
  refine TC.seq ?_
  refine TC.region ?_
  refine TL.move rfl rfl ?_
  refine TL.lenSlice Try.underlying22 rfl rfl ?_
  refine TL.gtr rfl rfl rfl ?_
  refine TL.done ?_
  refine Thn.go ?_
  refine TC.condP rfl (fun h2 => ?_) (fun h2 => ?_)
  ·
    refine TC.seq ?_
    refine TC.region ?_
    refine TL.move rfl rfl ?_
    refine TL.assign rfl rfl ?_
    refine TL.done ?_
    refine Thn.go ?_
    refine TC.ret ?_
    refine Thn.ret ?_
    refine Ends.ret [2] rfl rfl ?_
    exact ⟨rfl, hc10⟩
  ·
    refine TC.skip ?_
    refine Thn.go ?_
    refine TC.seq ?_
    refine TC.region ?_
    refine TL.move rfl rfl ?_
    refine TL.call can17 rfl rfl (fn17 _ l w10 (ha.ch0 hc10)) (fun v19 w19 hr19 => ?_)
    obtain ⟨rfl, rfl⟩ := hr19
    refine TL.move rfl rfl ?_
    refine TL.extract rfl rfl rfl ?_
    refine TL.extract rfl rfl rfl ?_
    refine TL.extract rfl rfl rfl ?_
    refine TL.assign rfl rfl ?_
    refine TL.assign rfl rfl ?_
    refine TL.assign rfl rfl ?_
    refine TL.done ?_
    refine Thn.go ?_
    refine TC.seq ?_
    refine TC.cut0 ([(0, .slice ad l.length c), (3, .bool true), (55, .bool false)]) (fun w' => Ch [] w w') (fun K3 hK3 => ?_) (fun w' hH => ?_)
    ·
      refine TC.regionH (fun w' => Ch [] w19 w') mixed0 ?_
      have hS : (fun w' => Ch [] w19 w') _ := Ch.drew _ _
      refine TH.take (i := 0) rfl rfl rfl rfl rfl (by kernel_rfl) (by kernel_rfl) (by kernel_rfl) hS (fun w2 hw2 => TL.move rfl rfl (TL.done ⟨rfl, rfl⟩)) ?_
      refine TH.take (i := 1) rfl rfl rfl rfl rfl (by kernel_rfl) (by kernel_rfl) (by kernel_rfl) hS (fun w2 hw2 => TL.eql rfl rfl rfl (TL.done ⟨rfl, rfl⟩)) ?_
      refine TH.em (fun e24 => ?_) (fun e24 => ?_)
      ·
        obtain ⟨_, hK1, hsm⟩ := hro.resolve_right (by omega)
        refine TH.take (i := 2) rfl rfl rfl rfl rfl (by kernel_rfl) (by kernel_rfl) (by kernel_rfl) hS (fun w2 hw2 => TL.move rfl rfl (TL.done ⟨rfl, rfl⟩)) ?_
        refine TH.takeG (i := 3) (dj := 25) rfl rfl rfl rfl rfl rfl (by kernel_rfl) (by kernel_rfl) (by kernel_rfl) hS (fun w2 hw2 => TL.move rfl rfl (TL.done ⟨rfl, rfl⟩)) ?_
        refine TH.takeG (i := 4) (dj := 25) rfl rfl rfl rfl rfl rfl (by kernel_rfl) (by kernel_rfl) (by kernel_rfl) hS (fun w2 hw2 => TL.lss rfl rfl rfl (TL.done ⟨rfl, rfl⟩)) ?_
        refine TH.no (by omega) ?_
        refine TH.takeG (i := 5) (dj := 25) rfl rfl rfl rfl rfl rfl (by kernel_rfl) (by kernel_rfl) (by kernel_rfl) hS (fun w2 hw2 => TL.move rfl rfl (TL.done ⟨rfl, rfl⟩)) ?_
        refine TH.takeG (i := 6) (dj := 28) rfl rfl rfl rfl rfl rfl (by kernel_rfl) (by kernel_rfl) (by kernel_rfl) hS (fun w2 hw2 => TL.move rfl rfl (TL.done ⟨rfl, rfl⟩)) ?_
        refine TH.takeG (i := 7) (dj := 28) rfl rfl rfl rfl rfl rfl (by kernel_rfl) (by kernel_rfl) (by kernel_rfl) hS (fun w2 hw2 => TL.move rfl rfl (TL.done ⟨rfl, rfl⟩)) ?_
        refine TH.takeG (i := 8) (dj := 28) rfl rfl rfl rfl rfl rfl (by kernel_rfl) (by kernel_rfl) (by kernel_rfl) hS (fun w2 hw2 => TL.lenSlice Try.underlying22 rfl rfl (TL.done ⟨rfl, rfl⟩)) ?_
        refine TH.takeG (i := 9) (dj := 28) rfl rfl rfl rfl rfl rfl (by kernel_rfl) (by kernel_rfl) (by kernel_rfl) hS (fun w2 hw2 => TL.gtr rfl rfl rfl (TL.done ⟨rfl, rfl⟩)) ?_
        refine TH.no (by omega) ?_
        refine TH.takeG (i := 10) (dj := 25) rfl rfl rfl rfl rfl rfl (by kernel_rfl) (by kernel_rfl) (by kernel_rfl) hS (fun w2 hw2 => TL.pickF rfl rfl rfl rfl (TL.done ⟨rfl, rfl⟩)) ?_
        refine TH.takeG (i := 11) (dj := 25) rfl rfl rfl rfl rfl rfl (by kernel_rfl) (by kernel_rfl) (by kernel_rfl) hS (fun w2 hw2 => TL.move rfl rfl (TL.done ⟨rfl, rfl⟩)) ?_
        refine TH.takeG (i := 12) (dj := 34) rfl rfl rfl rfl rfl rfl (by kernel_rfl) (by kernel_rfl) (by kernel_rfl) hS (fun w2 hw2 => TL.move rfl rfl (TL.done ⟨rfl, rfl⟩)) ?_
        refine TH.takeG (i := 14) (dj := 34) rfl rfl rfl rfl rfl rfl (by kernel_rfl) (by kernel_rfl) (by kernel_rfl) hS (fun w2 hw2 => TL.move rfl rfl (TL.done ⟨rfl, rfl⟩)) ?_
        refine TH.takeG (i := 15) (dj := 34) rfl rfl rfl rfl rfl rfl (by kernel_rfl) (by kernel_rfl) (by kernel_rfl) hS (fun w2 hw2 => TL.move rfl rfl (TL.done ⟨rfl, rfl⟩)) ?_
        refine TH.takeG (i := 16) (dj := 34) rfl rfl rfl rfl rfl rfl (by kernel_rfl) (by kernel_rfl) (by kernel_rfl) hS (fun w2 hw2 => TL.sliceTo (Bits.rdK (Bits.read l)) sl22 rfl rfl (by first | rfl | omega) (by omega) rfl (TL.done ⟨rfl, rfl⟩)) ?_
        refine TH.oneG (i := 13) (dj := 34) (by kernel_rfl) rfl rfl rfl rfl ?_
        refine TL.call can13 rfl rfl (fn13 _ w19.drew) (fun v36 w36 hr36 => ?_)
        obtain ⟨hv36, hc36⟩ := hr36
        rw [hn] at hv36
        have hS : (fun w' => Ch [] w19 w') _ := hS.trans0 hc36
        refine TL.done ⟨hS, ?_⟩
        refine TH.oneG (i := 17) (dj := 34) (by kernel_rfl) rfl rfl rfl rfl ?_
        refine TL.call can27 rfl rfl (fn27 v36 _ (Bits.small (Bits.rdN (Bits.read l))) (l.take (Bits.rdK (Bits.read l))) w36 (Rd.ofOwn hv36) (Rd.bytes _ (((ha.ch0 hc10).ch0 hS).to hK) (by simp; omega) (by simp))) (fun v40 w40 hr40 => ?_)
        obtain ⟨rfl, rfl⟩ := hr40
        have hS : (fun w' => Ch [] w19 w') _ := hS
        refine TL.done ⟨hS, ?_⟩
        refine TH.yes (hsm) ?_
        refine TH.takeG (i := 18) (dj := 34) rfl rfl rfl rfl rfl rfl (by kernel_rfl) (by kernel_rfl) (by kernel_rfl) hS (fun w2 hw2 => TL.not rfl rfl (TL.done ⟨rfl, rfl⟩)) ?_
        refine TH.takeG (i := 19) (dj := 25) rfl rfl rfl rfl rfl rfl (by kernel_rfl) (by kernel_rfl) (by kernel_rfl) hS (fun w2 hw2 => TL.pickF rfl rfl rfl rfl (TL.done ⟨rfl, rfl⟩)) ?_
        refine TH.take (i := 20) rfl rfl rfl rfl rfl (by kernel_rfl) (by kernel_rfl) (by kernel_rfl) hS (fun w2 hw2 => TL.pickT rfl rfl rfl rfl (TL.done ⟨rfl, rfl⟩)) ?_
        refine TH.take (i := 21) rfl rfl rfl rfl rfl (by kernel_rfl) (by kernel_rfl) (by kernel_rfl) hS (fun w2 hw2 => TL.move rfl rfl (TL.done ⟨rfl, rfl⟩)) ?_
        refine TH.takeG (i := 22) (dj := 44) rfl rfl rfl rfl rfl rfl (by kernel_rfl) (by kernel_rfl) (by kernel_rfl) hS (fun w2 hw2 => TL.move rfl rfl (TL.done ⟨rfl, rfl⟩)) ?_
        refine TH.takeG (i := 23) (dj := 44) rfl rfl rfl rfl rfl rfl (by kernel_rfl) (by kernel_rfl) (by kernel_rfl) hS (fun w2 hw2 => TL.neq rfl rfl rfl (TL.done ⟨rfl, rfl⟩)) ?_
        refine TH.no (by omega) ?_
        refine TH.takeG (i := 24) (dj := 44) rfl rfl rfl rfl rfl rfl (by kernel_rfl) (by kernel_rfl) (by kernel_rfl) hS (fun w2 hw2 => TL.move rfl rfl (TL.done ⟨rfl, rfl⟩)) ?_
        refine TH.drop (i := 25) (dj := 47) rfl rfl rfl rfl rfl rfl (by kernel_rfl) (by kernel_rfl) (by kernel_rfl) hS ?_
        refine TH.drop (i := 26) (dj := 47) rfl rfl rfl rfl rfl rfl (by kernel_rfl) (by kernel_rfl) (by kernel_rfl) hS ?_
        refine TH.drop (i := 27) (dj := 47) rfl rfl rfl rfl rfl rfl (by kernel_rfl) (by kernel_rfl) (by kernel_rfl) hS ?_
        refine TH.dropU (i := 28) (dj := 50) rfl rfl rfl rfl rfl (by kernel_rfl) (by kernel_rfl) (by kernel_rfl) hS ?_
        refine TH.dropU (i := 29) (dj := 50) rfl rfl rfl rfl rfl (by kernel_rfl) (by kernel_rfl) (by kernel_rfl) hS ?_
        refine TH.drop (i := 30) (dj := 47) rfl rfl rfl rfl rfl rfl (by kernel_rfl) (by kernel_rfl) (by kernel_rfl) hS ?_
        refine TH.takeG (i := 31) (dj := 44) rfl rfl rfl rfl rfl rfl (by kernel_rfl) (by kernel_rfl) (by kernel_rfl) hS (fun w2 hw2 => TL.pickF rfl rfl rfl rfl (TL.done ⟨rfl, rfl⟩)) ?_
        refine TH.take (i := 32) rfl rfl rfl rfl rfl (by kernel_rfl) (by kernel_rfl) (by kernel_rfl) hS (fun w2 hw2 => TL.pickF rfl rfl rfl rfl (TL.done ⟨rfl, rfl⟩)) ?_
        refine TH.done (by kernel_rfl) ?_
        exact hK3  _ _ (by repeat (first | exact trivial | refine ⟨rfl, ?_⟩)) (hc10.trans0 hS)
      ·
        obtain ⟨_, hN0, hK0⟩ := hro.resolve_left (by omega)
        refine TH.take (i := 2) rfl rfl rfl rfl rfl (by kernel_rfl) (by kernel_rfl) (by kernel_rfl) hS (fun w2 hw2 => TL.move rfl rfl (TL.done ⟨rfl, rfl⟩)) ?_
        refine TH.drop (i := 3) (dj := 25) rfl rfl rfl rfl rfl rfl (by kernel_rfl) (by kernel_rfl) (by kernel_rfl) hS ?_
        refine TH.drop (i := 4) (dj := 25) rfl rfl rfl rfl rfl rfl (by kernel_rfl) (by kernel_rfl) (by kernel_rfl) hS ?_
        refine TH.drop (i := 5) (dj := 25) rfl rfl rfl rfl rfl rfl (by kernel_rfl) (by kernel_rfl) (by kernel_rfl) hS ?_
        refine TH.dropU (i := 6) (dj := 28) rfl rfl rfl rfl rfl (by kernel_rfl) (by kernel_rfl) (by kernel_rfl) hS ?_
        refine TH.dropU (i := 7) (dj := 28) rfl rfl rfl rfl rfl (by kernel_rfl) (by kernel_rfl) (by kernel_rfl) hS ?_
        refine TH.dropU (i := 8) (dj := 28) rfl rfl rfl rfl rfl (by kernel_rfl) (by kernel_rfl) (by kernel_rfl) hS ?_
        refine TH.dropU (i := 9) (dj := 28) rfl rfl rfl rfl rfl (by kernel_rfl) (by kernel_rfl) (by kernel_rfl) hS ?_
        refine TH.drop (i := 10) (dj := 25) rfl rfl rfl rfl rfl rfl (by kernel_rfl) (by kernel_rfl) (by kernel_rfl) hS ?_
        refine TH.drop (i := 11) (dj := 25) rfl rfl rfl rfl rfl rfl (by kernel_rfl) (by kernel_rfl) (by kernel_rfl) hS ?_
        refine TH.dropU (i := 12) (dj := 34) rfl rfl rfl rfl rfl (by kernel_rfl) (by kernel_rfl) (by kernel_rfl) hS ?_
        refine TH.dropU (i := 13) (dj := 34) rfl rfl rfl rfl rfl (by kernel_rfl) (by kernel_rfl) (by kernel_rfl) hS ?_
        refine TH.dropU (i := 14) (dj := 34) rfl rfl rfl rfl rfl (by kernel_rfl) (by kernel_rfl) (by kernel_rfl) hS ?_
        refine TH.dropU (i := 15) (dj := 34) rfl rfl rfl rfl rfl (by kernel_rfl) (by kernel_rfl) (by kernel_rfl) hS ?_
        refine TH.dropU (i := 16) (dj := 34) rfl rfl rfl rfl rfl (by kernel_rfl) (by kernel_rfl) (by kernel_rfl) hS ?_
        refine TH.dropU (i := 17) (dj := 34) rfl rfl rfl rfl rfl (by kernel_rfl) (by kernel_rfl) (by kernel_rfl) hS ?_
        refine TH.dropU (i := 18) (dj := 34) rfl rfl rfl rfl rfl (by kernel_rfl) (by kernel_rfl) (by kernel_rfl) hS ?_
        refine TH.drop (i := 19) (dj := 25) rfl rfl rfl rfl rfl rfl (by kernel_rfl) (by kernel_rfl) (by kernel_rfl) hS ?_
        refine TH.take (i := 20) rfl rfl rfl rfl rfl (by kernel_rfl) (by kernel_rfl) (by kernel_rfl) hS (fun w2 hw2 => TL.pickF rfl rfl rfl rfl (TL.done ⟨rfl, rfl⟩)) ?_
        refine TH.take (i := 21) rfl rfl rfl rfl rfl (by kernel_rfl) (by kernel_rfl) (by kernel_rfl) hS (fun w2 hw2 => TL.move rfl rfl (TL.done ⟨rfl, rfl⟩)) ?_
        refine TH.takeG (i := 22) (dj := 44) rfl rfl rfl rfl rfl rfl (by kernel_rfl) (by kernel_rfl) (by kernel_rfl) hS (fun w2 hw2 => TL.move rfl rfl (TL.done ⟨rfl, rfl⟩)) ?_
        refine TH.takeG (i := 23) (dj := 44) rfl rfl rfl rfl rfl rfl (by kernel_rfl) (by kernel_rfl) (by kernel_rfl) hS (fun w2 hw2 => TL.neq rfl rfl rfl (TL.done ⟨rfl, rfl⟩)) ?_
        refine TH.yes (by omega) ?_
        refine TH.takeG (i := 24) (dj := 44) rfl rfl rfl rfl rfl rfl (by kernel_rfl) (by kernel_rfl) (by kernel_rfl) hS (fun w2 hw2 => TL.move rfl rfl (TL.done ⟨rfl, rfl⟩)) ?_
        refine TH.takeG (i := 25) (dj := 47) rfl rfl rfl rfl rfl rfl (by kernel_rfl) (by kernel_rfl) (by kernel_rfl) hS (fun w2 hw2 => TL.move rfl rfl (TL.done ⟨rfl, rfl⟩)) ?_
        refine TH.takeG (i := 26) (dj := 47) rfl rfl rfl rfl rfl rfl (by kernel_rfl) (by kernel_rfl) (by kernel_rfl) hS (fun w2 hw2 => TL.neq rfl rfl rfl (TL.done ⟨rfl, rfl⟩)) ?_
        refine TH.no (by omega) ?_
        refine TH.takeG (i := 27) (dj := 47) rfl rfl rfl rfl rfl rfl (by kernel_rfl) (by kernel_rfl) (by kernel_rfl) hS (fun w2 hw2 => TL.move rfl rfl (TL.done ⟨rfl, rfl⟩)) ?_
        refine TH.takeG (i := 28) (dj := 50) rfl rfl rfl rfl rfl rfl (by kernel_rfl) (by kernel_rfl) (by kernel_rfl) hS (fun w2 hw2 => TL.move rfl rfl (TL.done ⟨rfl, rfl⟩)) ?_
        refine TH.takeG (i := 29) (dj := 50) rfl rfl rfl rfl rfl rfl (by kernel_rfl) (by kernel_rfl) (by kernel_rfl) hS (fun w2 hw2 => TL.neq rfl rfl rfl (TL.done ⟨rfl, rfl⟩)) ?_
        refine TH.no (by omega) ?_
        refine TH.takeG (i := 30) (dj := 47) rfl rfl rfl rfl rfl rfl (by kernel_rfl) (by kernel_rfl) (by kernel_rfl) hS (fun w2 hw2 => TL.pickF rfl rfl rfl rfl (TL.done ⟨rfl, rfl⟩)) ?_
        refine TH.takeG (i := 31) (dj := 44) rfl rfl rfl rfl rfl rfl (by kernel_rfl) (by kernel_rfl) (by kernel_rfl) hS (fun w2 hw2 => TL.pickT rfl rfl rfl rfl (TL.done ⟨rfl, rfl⟩)) ?_
        refine TH.take (i := 32) rfl rfl rfl rfl rfl (by kernel_rfl) (by kernel_rfl) (by kernel_rfl) hS (fun w2 hw2 => TL.pickF rfl rfl rfl rfl (TL.done ⟨rfl, rfl⟩)) ?_
        refine TH.done (by kernel_rfl) ?_
        exact hK3  _ _ (by repeat (first | exact trivial | refine ⟨rfl, ?_⟩)) (hc10.trans0 hS)
    ·
      refine TC.condF rfl rfl ?_
      refine TC.skip ?_
      refine Thn.go ?_
      refine TC.seq ?_
      refine TC.region ?_
      refine TL.move rfl rfl ?_
      refine TL.call can22 rfl rfl (fn22 _ l (by omega) w' (ha.ch0 hH)) (fun v58 w58 hr58 => ?_)
      obtain ⟨r58, rfl, hv58, hc58⟩ := hr58
      refine TL.move rfl rfl ?_
      refine TL.extract rfl rfl rfl ?_
      refine TL.extract rfl rfl rfl ?_
      refine TL.extract rfl rfl rfl ?_
      refine TL.assign rfl rfl ?_
      refine TL.assign rfl rfl ?_
      refine TL.assign rfl rfl ?_
      refine TL.done ?_
      refine Thn.go ?_
      refine TC.cut0 ([(2, .bool true)]) (fun w2 => Ch [] w w2) (fun K5 hK5 => ?_) (fun w2 hH2 => ?_)
      ·
        refine TC.region ?_
        refine TL.move rfl rfl ?_
        refine TL.move rfl rfl ?_
        refine TL.guardYes (d := 63) rfl rfl rfl ?_
        refine TL.move rfl rfl ?_
        refine TL.guardYes (d := 63) rfl rfl rfl ?_
        refine TL.eql rfl rfl rfl ?_
        refine TL.em (fun e65 => ?_) (fun e65 => ?_)
        ·
          obtain ⟨_, htx⟩ := hcf.resolve_right (by omega)
          have hlen := congrArg List.length htx
          rw [List.length_append] at hlen
          have hsl : (Bits.cutS l).length ≤ (Bits.text (Bits.cutS l)).length := by rw [Bits.text, List.length_append]; omega
          refine TL.guardYes (d := 63) rfl rfl rfl ?_
          refine TL.move rfl rfl ?_
          refine TL.guardYes (d := 66) rfl rfl rfl ?_
          refine TL.move rfl rfl ?_
          refine TL.guardYes (d := 66) rfl rfl rfl ?_
          refine TL.call can24 rfl rfl (fn24 (Bits.cutS l) (by omega) w58) (fun v68 w68 hr68 => ?_)
          obtain ⟨hv68, hc68⟩ := hr68
          have z68 := hc68.size
          refine TL.guardYes (d := 66) rfl rfl rfl ?_
          refine TL.move rfl rfl ?_
          refine TL.guardYes (d := 66) rfl rfl rfl ?_
          refine TL.append sl22 rfl rfl rfl (hv68) (News.ofRd Try.underlying22 (Rd.ofOwn (hv58.ch0 hc68)) (one_u8 _)) (by omega) (by omega) (by omega) (fun v70 w70 hv70 hc70 _ => ?_)
          refine TL.guardYes (d := 66) rfl rfl rfl ?_
          refine TL.move rfl rfl ?_
          refine TL.guardYes (d := 66) rfl rfl rfl ?_
          refine TL.call can27 rfl rfl (fn27 v70 _ (Bits.text (Bits.cutS l) ++ Bits.cutR l) l w70 (Rd.bytes _ (Rd.ofOwn hv70) (by simp) (by simp)) (ha.ch0 ((hH.trans0 hc58).trans0 (hv68.thenCh hc68 hc70)))) (fun v72 w72 hr72 => ?_)
          obtain ⟨rfl, rfl⟩ := hr72
          refine TL.yes (htx) ?_
          refine TL.guardYes (d := 63) rfl rfl rfl ?_
          refine TL.pickT rfl rfl rfl rfl ?_
          refine TL.guardYes (d := 63) rfl rfl rfl ?_
          refine TL.move rfl rfl ?_
          refine TL.guardNo (d := 74) rfl rfl rfl rfl rfl ?_
          refine TL.guardNo (d := 74) rfl rfl rfl rfl rfl ?_
          refine TL.guardNo (d := 74) rfl rfl rfl rfl rfl ?_
          refine TL.guardUndef (d := 77) rfl rfl rfl rfl ?_
          refine TL.guardUndef (d := 77) rfl rfl rfl rfl ?_
          refine TL.guardNo (d := 74) rfl rfl rfl rfl rfl ?_
          refine TL.guardNo (d := 74) rfl rfl rfl rfl rfl ?_
          refine TL.guardUndef (d := 81) rfl rfl rfl rfl ?_
          refine TL.guardUndef (d := 81) rfl rfl rfl rfl ?_
          refine TL.guardUndef (d := 81) rfl rfl rfl rfl ?_
          refine TL.guardNo (d := 74) rfl rfl rfl rfl rfl ?_
          refine TL.guardYes (d := 63) rfl rfl rfl ?_
          refine TL.pickT rfl rfl rfl rfl ?_
          refine TL.pickT rfl rfl rfl rfl ?_
          refine TL.assign rfl rfl ?_
          refine TL.done ?_
          exact hK5  _ _ (by repeat (first | exact trivial | refine ⟨rfl, ?_⟩)) ((hH.trans0 hc58).trans0 (hv68.thenCh hc68 hc70))
        ·
          obtain ⟨hE8, hS0, hR0⟩ := hcf.resolve_left (by omega)
          refine TL.guardYes (d := 63) rfl rfl rfl ?_
          refine TL.move rfl rfl ?_
          refine TL.guardNo (d := 66) rfl rfl rfl rfl rfl ?_
          refine TL.guardNo (d := 66) rfl rfl rfl rfl rfl ?_
          refine TL.guardNo (d := 66) rfl rfl rfl rfl rfl ?_
          refine TL.guardNo (d := 66) rfl rfl rfl rfl rfl ?_
          refine TL.guardNo (d := 66) rfl rfl rfl rfl rfl ?_
          refine TL.guardNo (d := 66) rfl rfl rfl rfl rfl ?_
          refine TL.guardYes (d := 63) rfl rfl rfl ?_
          refine TL.pickF rfl rfl rfl rfl ?_
          refine TL.guardYes (d := 63) rfl rfl rfl ?_
          refine TL.move rfl rfl ?_
          refine TL.guardYes (d := 74) rfl rfl rfl ?_
          refine TL.move rfl rfl ?_
          refine TL.guardYes (d := 74) rfl rfl rfl ?_
          refine TL.eql rfl rfl rfl ?_
          refine TL.yes (by omega) ?_
          refine TL.guardYes (d := 74) rfl rfl rfl ?_
          refine TL.move rfl rfl ?_
          refine TL.guardYes (d := 77) rfl rfl rfl ?_
          refine TL.move rfl rfl ?_
          refine TL.guardYes (d := 77) rfl rfl rfl ?_
          refine TL.eqlStr rfl rfl rfl ?_
          refine TL.yes (hS0) ?_
          refine TL.guardYes (d := 74) rfl rfl rfl ?_
          refine TL.pickT rfl rfl rfl rfl ?_
          refine TL.guardYes (d := 74) rfl rfl rfl ?_
          refine TL.move rfl rfl ?_
          refine TL.guardYes (d := 81) rfl rfl rfl ?_
          refine TL.move rfl rfl ?_
          obtain ⟨a58, c58, rfl, _⟩ := hv58.shape
          refine TL.guardYes (d := 81) rfl rfl rfl ?_
          refine TL.lenSlice Try.underlying22 rfl rfl ?_
          refine TL.guardYes (d := 81) rfl rfl rfl ?_
          refine TL.eql rfl rfl rfl ?_
          refine TL.yes (by rw [hR0]; rfl) ?_
          refine TL.guardYes (d := 74) rfl rfl rfl ?_
          refine TL.pickT rfl rfl rfl rfl ?_
          refine TL.guardYes (d := 63) rfl rfl rfl ?_
          refine TL.pickF rfl rfl rfl rfl ?_
          refine TL.pickT rfl rfl rfl rfl ?_
          refine TL.assign rfl rfl ?_
          refine TL.done ?_
          exact hK5  _ _ (by repeat (first | exact trivial | refine ⟨rfl, ?_⟩)) (hH.trans0 hc58)
      ·
        refine TC.ret ?_
        refine Ends.ret [2] rfl rfl ?_
        exact ⟨rfl, hH2⟩

theorem fn9 (w : World) : Rets Try.prog 9 #[] w (fun v w' => v = .bool true ∧ Ch [] w w') := by
  have hmm : maxLen = 9223372036854775807 := rfl
  refine Rets.of (n := 130) (vs := []) Try.func9 rfl rfl rfl ?_
  refine TC.seq ?_
  refine TC.region ?_
  refine TL.assign rfl rfl ?_
  refine TL.done ?_
  refine Thn.go ?_
  refine TC.seq ?_
  refine TC.region ?_
  refine TL.buildSlice (vs := [128, 1, 7].map u8) [.const (Value.int IntKind.u8 128), .const (Value.int IntKind.u8 1), .const (Value.int IntKind.u8 7)] sl22 rfl rfl rfl (by decide) (by simp [Value.cells]) rfl (fun w19 hb19 hc19 hz19 => ?_)
  refine TL.call can17 rfl rfl (fn17 _ [128, 1, 7] w19 (Rd.ofBytes _ hb19 (by decide))) (fun v20 w20 hr20 => ?_)
  obtain ⟨rfl, rfl⟩ := hr20
  rw [show Bits.read [128, 1, 7] = some (128, 2) by decide]
  refine TL.move rfl rfl ?_
  refine TL.extract rfl rfl rfl ?_
  refine TL.extract rfl rfl rfl ?_
  refine TL.extract rfl rfl rfl ?_
  refine TL.assign rfl rfl ?_
  refine TL.assign rfl rfl ?_
  refine TL.assign rfl rfl ?_
  refine TL.done ?_
  refine Thn.go ?_
  refine TC.seq ?_
  refine TC.region ?_
  refine TL.call can13 rfl rfl (fn13 0 w20) (fun v24 w24 hr24 => ?_)
  obtain ⟨hv24, hc24⟩ := hr24
  refine TL.buildSlice (vs := [0].map u8) [.const (Value.int IntKind.u8 0)] sl22 rfl rfl rfl (by decide) (by simp [Value.cells]) rfl (fun w25 hb25 hc25 hz25 => ?_)
  refine TL.call can27 rfl rfl (fn27 _ _ (Bits.small (0 : UInt64).toNat) [0] w25 (Rd.ofOwn (hv24.ch0 hc25)) (Rd.ofBytes _ hb25 (by decide))) (fun v26 w26 hr26 => ?_)
  obtain ⟨rfl, rfl⟩ := hr26
  refine TL.yes (sm0) ?_
  refine TL.move rfl rfl ?_
  refine TL.guardYes (d := 27) rfl rfl rfl ?_
  refine TL.call can13 rfl rfl (fn13 127 w26) (fun v28 w28 hr28 => ?_)
  obtain ⟨hv28, hc28⟩ := hr28
  refine TL.guardYes (d := 27) rfl rfl rfl ?_
  refine TL.buildSlice (vs := [127].map u8) [.const (Value.int IntKind.u8 127)] sl22 rfl rfl rfl (by decide) (by simp [Value.cells]) rfl (fun w29 hb29 hc29 hz29 => ?_)
  refine TL.guardYes (d := 27) rfl rfl rfl ?_
  refine TL.call can27 rfl rfl (fn27 _ _ (Bits.small (127 : UInt64).toNat) [127] w29 (Rd.ofOwn (hv28.ch0 hc29)) (Rd.ofBytes _ hb29 (by decide))) (fun v30 w30 hr30 => ?_)
  obtain ⟨rfl, rfl⟩ := hr30
  refine TL.yes (sm127) ?_
  refine TL.pickT rfl rfl rfl rfl ?_
  refine TL.move rfl rfl ?_
  refine TL.guardYes (d := 32) rfl rfl rfl ?_
  refine TL.call can13 rfl rfl (fn13 128 w30) (fun v33 w33 hr33 => ?_)
  obtain ⟨hv33, hc33⟩ := hr33
  refine TL.guardYes (d := 32) rfl rfl rfl ?_
  refine TL.buildSlice (vs := [128, 1].map u8) [.const (Value.int IntKind.u8 128), .const (Value.int IntKind.u8 1)] sl22 rfl rfl rfl (by decide) (by simp [Value.cells]) rfl (fun w34 hb34 hc34 hz34 => ?_)
  refine TL.guardYes (d := 32) rfl rfl rfl ?_
  refine TL.call can27 rfl rfl (fn27 _ _ (Bits.small (128 : UInt64).toNat) [128, 1] w34 (Rd.ofOwn (hv33.ch0 hc34)) (Rd.ofBytes _ hb34 (by decide))) (fun v35 w35 hr35 => ?_)
  obtain ⟨rfl, rfl⟩ := hr35
  refine TL.yes (sm128) ?_
  refine TL.pickT rfl rfl rfl rfl ?_
  refine TL.move rfl rfl ?_
  refine TL.guardYes (d := 37) rfl rfl rfl ?_
  refine TL.call can13 rfl rfl (fn13 18446744073709551615 w35) (fun v38 w38 hr38 => ?_)
  obtain ⟨hv38, hc38⟩ := hr38
  refine TL.guardYes (d := 37) rfl rfl rfl ?_
  refine TL.buildSlice (vs := [255, 255, 255, 255, 255, 255, 255, 255, 255, 1].map u8) [.const (Value.int IntKind.u8 255), .const (Value.int IntKind.u8 255), .const (Value.int IntKind.u8 255), .const (Value.int IntKind.u8 255), .const (Value.int IntKind.u8 255), .const (Value.int IntKind.u8 255), .const (Value.int IntKind.u8 255), .const (Value.int IntKind.u8 255), .const (Value.int IntKind.u8 255), .const (Value.int IntKind.u8 1)] sl22 rfl rfl rfl (by decide) (by simp [Value.cells]) rfl (fun w39 hb39 hc39 hz39 => ?_)
  refine TL.guardYes (d := 37) rfl rfl rfl ?_
  refine TL.call can27 rfl rfl (fn27 _ _ (Bits.small (18446744073709551615 : UInt64).toNat) [255, 255, 255, 255, 255, 255, 255, 255, 255, 1] w39 (Rd.ofOwn (hv38.ch0 hc39)) (Rd.ofBytes _ hb39 (by decide))) (fun v40 w40 hr40 => ?_)
  obtain ⟨rfl, rfl⟩ := hr40
  refine TL.yes (smAll) ?_
  refine TL.pickT rfl rfl rfl rfl ?_
  refine TL.move rfl rfl ?_
  refine TL.guardYes (d := 42) rfl rfl rfl ?_
  refine TL.move rfl rfl ?_
  refine TL.guardYes (d := 42) rfl rfl rfl ?_
  refine TL.eql rfl rfl rfl ?_
  refine TL.yes (rfl) ?_
  refine TL.pickT rfl rfl rfl rfl ?_
  refine TL.move rfl rfl ?_
  refine TL.guardYes (d := 46) rfl rfl rfl ?_
  refine TL.move rfl rfl ?_
  refine TL.guardYes (d := 46) rfl rfl rfl ?_
  refine TL.eql rfl rfl rfl ?_
  refine TL.yes (rfl) ?_
  refine TL.pickT rfl rfl rfl rfl ?_
  refine TL.move rfl rfl ?_
  refine TL.guardYes (d := 50) rfl rfl rfl ?_
  refine TL.move rfl rfl ?_
  refine TL.guardYes (d := 50) rfl rfl rfl ?_
  refine TL.eql rfl rfl rfl ?_
  refine TL.yes (rfl) ?_
  refine TL.pickT rfl rfl rfl rfl ?_
  refine TL.assign rfl rfl ?_
  refine TL.done ?_
  refine Thn.go ?_
  refine TC.seq ?_
  refine TC.region ?_
  refine TL.buildSlice (vs := [128].map u8) [.const (Value.int IntKind.u8 128)] sl22 rfl rfl rfl (by decide) (by simp [Value.cells]) rfl (fun w54 hb54 hc54 hz54 => ?_)
  refine TL.buildSlice (vs := [128, 0].map u8) [.const (Value.int IntKind.u8 128), .const (Value.int IntKind.u8 0)] sl22 rfl rfl rfl (by decide) (by simp [Value.cells]) rfl (fun w55 hb55 hc55 hz55 => ?_)
  refine TL.buildSlice (vs := [255, 255, 255, 255, 255, 255, 255, 255, 255, 2].map u8) [.const (Value.int IntKind.u8 255), .const (Value.int IntKind.u8 255), .const (Value.int IntKind.u8 255), .const (Value.int IntKind.u8 255), .const (Value.int IntKind.u8 255), .const (Value.int IntKind.u8 255), .const (Value.int IntKind.u8 255), .const (Value.int IntKind.u8 255), .const (Value.int IntKind.u8 255), .const (Value.int IntKind.u8 2)] sl22 rfl rfl rfl (by decide) (by simp [Value.cells]) rfl (fun w56 hb56 hc56 hz56 => ?_)
  refine TL.buildSlice (vs := [128, 128, 128, 128, 128, 128, 128, 128, 128, 128, 1].map u8) [.const (Value.int IntKind.u8 128), .const (Value.int IntKind.u8 128), .const (Value.int IntKind.u8 128), .const (Value.int IntKind.u8 128), .const (Value.int IntKind.u8 128), .const (Value.int IntKind.u8 128), .const (Value.int IntKind.u8 128), .const (Value.int IntKind.u8 128), .const (Value.int IntKind.u8 128), .const (Value.int IntKind.u8 128), .const (Value.int IntKind.u8 1)] sl22 rfl rfl rfl (by decide) (by simp [Value.cells]) rfl (fun w57 hb57 hc57 hz57 => ?_)
  refine TL.buildSlice [.tmp 54, .tmp 55, .const (Value.slice Option.none 0 0), .tmp 56, .tmp 57] sl49 rfl rfl rfl (by decide) (by simp [Value.cells]) rfl (fun w58 hb58 hc58 hz58 => ?_)
  have q58 : Ch [] w w58 := ((((((((((((hc19.trans0 hc24).trans0 hc25).trans0 hc28).trans0 hc29).trans0 hc33).trans0 hc34).trans0 hc38).trans0 hc39).trans0 hc54).trans0 hc55).trans0 hc56).trans0 hc57).trans0 hc58
  have hbad : ∀ k, k < 5 → ∃ v l, w58.cell? ⟨w57.heap.size, 0 + k * 1, none⟩ = some v ∧ Rd w58 v 1 l.length (l.map u8) ∧ Bits.read l = none := by
    intro k hk
    rcases k with _ | _ | _ | _ | _ | k
    · exact ⟨_, [128], hb58.cell _, Rd.ofBytes _ (((hb54.ch0 hc55).ch0 (hc56.trans0 hc57)).ch0 hc58) (by decide), by decide⟩
    · exact ⟨_, [128, 0], hb58.cell _, Rd.ofBytes _ ((hb55.ch0 (hc56.trans0 hc57)).ch0 hc58) (by decide), by decide⟩
    · exact ⟨_, [], hb58.cell _, Rd.nil _ _, by decide⟩
    · exact ⟨_, [255, 255, 255, 255, 255, 255, 255, 255, 255, 2], hb58.cell _, Rd.ofBytes _ ((hb56.ch0 hc57).ch0 hc58) (by decide), by decide⟩
    · exact ⟨_, [128, 128, 128, 128, 128, 128, 128, 128, 128, 128, 1], hb58.cell _, Rd.ofBytes _ (hb57.ch0 hc58) (by decide), by decide⟩
    · omega
  refine TL.assign rfl rfl ?_
  refine TL.done ?_
  refine Thn.go ?_
  refine TC.seq ?_
  refine TC.seq ?_
  refine TC.region ?_
  refine TL.assign rfl rfl ?_
  refine TL.done ?_
  refine Thn.go ?_
  refine TC.block ?_
  refine TC.loop1 (fun (k : Nat) => [(4, .bool true), (5, .slice (some ⟨w57.heap.size, 0, none⟩) 5 5), (6, .int .i64 (k : Int))]) (fun k w' => k ≤ 5 ∧ w' = w58) (fun k => 5 - k) 0 (by repeat (first | exact trivial | refine ⟨rfl, ?_⟩)) (⟨by omega, rfl⟩) (fun k w' hH => ?_)
  obtain ⟨hk, rfl⟩ := hH
  refine TC.seq ?_
  refine TC.seq ?_
  refine TC.region ?_
  refine TL.move rfl rfl ?_
  refine TL.move rfl rfl ?_
  refine TL.lenSlice Try.underlying49 rfl rfl ?_
  refine TL.lss rfl rfl rfl ?_
  refine TL.done ?_
  refine Thn.go ?_
  refine TC.condP rfl (fun h1 => ?_) (fun h1 => ?_)
  ·
    obtain ⟨vk, lk, hcell, hrd, hbd⟩ := hbad k (by omega)
    refine TC.skip ?_
    refine Thn.go ?_
    refine TC.seq ?_
    refine TC.block ?_
    refine TC.seq ?_
    refine TC.region ?_
    refine TL.move rfl rfl ?_
    refine TL.move rfl rfl ?_
    refine TL.indexAddr (k) sl49 rfl rfl (by first | rfl | omega) (by omega) rfl ?_
    refine TL.load pl22 rfl (hcell) rfl ?_
    refine TL.call can17 rfl rfl (fn17 _ lk w' hrd) (fun v70 w70 hr70 => ?_)
    obtain ⟨rfl, rfl⟩ := hr70
    rw [hbd]
    refine TL.move rfl rfl ?_
    refine TL.extract rfl rfl rfl ?_
    refine TL.extract rfl rfl rfl ?_
    refine TL.extract rfl rfl rfl ?_
    refine TL.assign rfl rfl ?_
    refine TL.assign rfl rfl ?_
    refine TL.assign rfl rfl ?_
    refine TL.done ?_
    refine Thn.go ?_
    refine TC.seq ?_
    refine TC.region ?_
    refine TL.move rfl rfl ?_
    refine TL.neq rfl rfl rfl ?_
    refine TL.done ?_
    refine Thn.go ?_
    refine TC.condF rfl (by decide) ?_
    refine TC.skip ?_
    refine Blk.go ?_
    refine Thn.go ?_
    refine TC.region ?_
    refine TL.move rfl rfl ?_
    refine TL.add_i64 rfl rfl (by omega) (by omega) rfl ?_
    refine TL.assign rfl rfl ?_
    refine TL.done ?_
    refine Lp.go (k + 1) (by repeat (first | exact trivial | refine ⟨rfl, ?_⟩)) ?_ (by first | omega | (dsimp only; omega))
    exact ⟨by omega, rfl⟩
  ·
    refine TC.exit ?_
    refine Thn.exit ?_
    refine Lp.exit ?_
    refine Blk.hit ?_
    refine Thn.go ?_
    refine TC.seq ?_
    refine TC.region ?_
    refine TL.buildSlice (vs := [2, 97, 98, 99].map u8) [.const (Value.int IntKind.u8 2), .const (Value.int IntKind.u8 97), .const (Value.int IntKind.u8 98), .const (Value.int IntKind.u8 99)] sl22 rfl rfl rfl (by decide) (by simp [Value.cells]) rfl (fun w77 hb77 hc77 hz77 => ?_)
    refine TL.call can22 rfl rfl (fn22 _ [2, 97, 98, 99] (by decide) w77 (Rd.ofBytes _ hb77 (by decide))) (fun v78 w78 hr78 => ?_)
    obtain ⟨r78, rfl, hv78, hc78⟩ := hr78
    rw [show Bits.cutS [2, 97, 98, 99] = [97, 98] by decide, show Bits.cutE [2, 97, 98, 99] = 0 by decide]
    rw [show Bits.cutR [2, 97, 98, 99] = [99] by decide] at hv78
    refine TL.move rfl rfl ?_
    refine TL.extract rfl rfl rfl ?_
    refine TL.extract rfl rfl rfl ?_
    refine TL.extract rfl rfl rfl ?_
    refine TL.assign rfl rfl ?_
    refine TL.assign rfl rfl ?_
    refine TL.assign rfl rfl ?_
    refine TL.done ?_
    refine Thn.go ?_
    refine TC.seq ?_
    refine TC.region ?_
    refine TL.buildSlice (vs := [3, 97, 98].map u8) [.const (Value.int IntKind.u8 3), .const (Value.int IntKind.u8 97), .const (Value.int IntKind.u8 98)] sl22 rfl rfl rfl (by decide) (by simp [Value.cells]) rfl (fun w83 hb83 hc83 hz83 => ?_)
    refine TL.call can22 rfl rfl (fn22 _ [3, 97, 98] (by decide) w83 (Rd.ofBytes _ hb83 (by decide))) (fun v84 w84 hr84 => ?_)
    obtain ⟨r84, rfl, hv84, hc84⟩ := hr84
    rw [show Bits.cutE [3, 97, 98] = 8 by decide]
    refine TL.move rfl rfl ?_
    refine TL.extract rfl rfl rfl ?_
    refine TL.extract rfl rfl rfl ?_
    refine TL.extract rfl rfl rfl ?_
    refine TL.assign rfl rfl ?_
    refine TL.assign rfl rfl ?_
    refine TL.assign rfl rfl ?_
    refine TL.done ?_
    refine Thn.go ?_
    refine TC.seq ?_
    refine TC.region ?_
    refine TL.buildSlice (vs := [1].map u8) [.const (Value.int IntKind.u8 1)] sl22 rfl rfl rfl (by decide) (by simp [Value.cells]) rfl (fun w89 hb89 hc89 hz89 => ?_)
    refine TL.call can15 rfl rfl (fn15 _ [1] w89 (Rd.ofBytes _ hb89 (by decide))) (fun v90 w90 hr90 => ?_)
    obtain ⟨rfl, hc90⟩ := hr90
    rw [show Bits.getE [1] = 8 by decide]
    refine TL.move rfl rfl ?_
    refine TL.extract rfl rfl rfl ?_
    refine TL.extract rfl rfl rfl ?_
    refine TL.assign rfl rfl ?_
    refine TL.assign rfl rfl ?_
    refine TL.done ?_
    refine Thn.go ?_
    refine TC.seq ?_
    refine TC.region ?_
    refine TL.move rfl rfl ?_
    refine TL.guardYes (d := 93) rfl rfl rfl ?_
    refine TL.call can11 rfl rfl (fn11 w90) (fun v94 w94 hr94 => ?_)
    obtain ⟨rfl, hc94⟩ := hr94
    refine TL.pickT rfl rfl rfl rfl ?_
    refine TL.move rfl rfl ?_
    refine TL.guardYes (d := 96) rfl rfl rfl ?_
    refine TL.move rfl rfl ?_
    refine TL.pickT rfl rfl rfl rfl ?_
    refine TL.move rfl rfl ?_
    refine TL.guardYes (d := 99) rfl rfl rfl ?_
    refine TL.call can24 rfl rfl (fn24 [97, 98] (by decide) w94) (fun v100 w100 hr100 => ?_)
    obtain ⟨hv100, hc100⟩ := hr100
    refine TL.guardYes (d := 99) rfl rfl rfl ?_
    refine TL.buildSlice (vs := [2, 97, 98].map u8) [.const (Value.int IntKind.u8 2), .const (Value.int IntKind.u8 97), .const (Value.int IntKind.u8 98)] sl22 rfl rfl rfl (by decide) (by simp [Value.cells]) rfl (fun w101 hb101 hc101 hz101 => ?_)
    refine TL.guardYes (d := 99) rfl rfl rfl ?_
    refine TL.call can27 rfl rfl (fn27 _ _ (Bits.text [97, 98]) [2, 97, 98] w101 (Rd.ofOwn (hv100.ch0 hc101)) (Rd.ofBytes _ hb101 (by decide))) (fun v102 w102 hr102 => ?_)
    obtain ⟨rfl, rfl⟩ := hr102
    refine TL.yes (txAb) ?_
    refine TL.pickT rfl rfl rfl rfl ?_
    refine TL.move rfl rfl ?_
    refine TL.guardYes (d := 104) rfl rfl rfl ?_
    refine TL.move rfl rfl ?_
    refine TL.guardYes (d := 104) rfl rfl rfl ?_
    refine TL.eqlStr rfl rfl rfl ?_
    refine TL.yes (rfl) ?_
    refine TL.pickT rfl rfl rfl rfl ?_
    refine TL.move rfl rfl ?_
    refine TL.guardYes (d := 108) rfl rfl rfl ?_
    refine TL.move rfl rfl ?_
    refine TL.guardYes (d := 108) rfl rfl rfl ?_
    refine TL.buildSlice (vs := [99].map u8) [.const (Value.int IntKind.u8 99)] sl22 rfl rfl rfl (by decide) (by simp [Value.cells]) rfl (fun w110 hb110 hc110 hz110 => ?_)
    refine TL.guardYes (d := 108) rfl rfl rfl ?_
    have z83 := hc83.size; have z84 := hc84.size; have z89 := hc89.size; have z90 := hc90.size; have z94 := hc94.size; have z100 := hc100.size; have z101 := hc101.size
    refine TL.markBytes Try.underlying22 Try.underlying5 rfl (hb110) rfl (fun w111 hb111 hc111 hz111 => ?_)
    refine TL.guardYes (d := 108) rfl rfl rfl ?_
    refine TL.call can27 rfl rfl (fn27 _ _ [99] [99] w111 (Rd.ofOwn (hv78.ch0 ((((((((hc83.trans0 hc84).trans0 hc89).trans0 hc90).trans0 hc94).trans0 hc100).trans0 hc101).trans0 hc110).thenS hc111 (by intro x hx; simp at hx; have := hc110.size; omega)))) (Rd.ofBytes _ hb111 (by decide))) (fun v112 w112 hr112 => ?_)
    obtain ⟨rfl, rfl⟩ := hr112
    refine TL.yes (rfl) ?_
    refine TL.pickT rfl rfl rfl rfl ?_
    refine TL.move rfl rfl ?_
    refine TL.guardYes (d := 114) rfl rfl rfl ?_
    refine TL.move rfl rfl ?_
    refine TL.guardYes (d := 114) rfl rfl rfl ?_
    refine TL.eql rfl rfl rfl ?_
    refine TL.yes (rfl) ?_
    refine TL.pickT rfl rfl rfl rfl ?_
    refine TL.move rfl rfl ?_
    refine TL.guardYes (d := 118) rfl rfl rfl ?_
    refine TL.move rfl rfl ?_
    refine TL.guardYes (d := 118) rfl rfl rfl ?_
    refine TL.eql rfl rfl rfl ?_
    refine TL.yes (rfl) ?_
    refine TL.pickT rfl rfl rfl rfl ?_
    refine TL.move rfl rfl ?_
    refine TL.guardYes (d := 122) rfl rfl rfl ?_
    refine TL.move rfl rfl ?_
    refine TL.guardYes (d := 122) rfl rfl rfl ?_
    refine TL.eql rfl rfl rfl ?_
    refine TL.yes (rfl) ?_
    refine TL.pickT rfl rfl rfl rfl ?_
    refine TL.move rfl rfl ?_
    refine TL.guardYes (d := 126) rfl rfl rfl ?_
    refine TL.call can12 rfl rfl (fn12 w112 _ [] (Rd.nil _ _)) (fun v127 w127 hr127 => ?_)
    obtain ⟨rfl, hc127⟩ := hr127
    refine TL.guardYes (d := 126) rfl rfl rfl ?_
    refine TL.eql rfl rfl rfl ?_
    refine TL.yes (by decide) ?_
    refine TL.pickT rfl rfl rfl rfl ?_
    refine TL.assign rfl rfl ?_
    refine TL.done ?_
    refine Thn.go ?_
    refine TC.ret ?_
    refine Ends.ret [0] rfl rfl ?_
    exact ⟨rfl, (((((((((((q58.trans0 hc77).trans0 hc78).trans0 hc83).trans0 hc84).trans0 hc89).trans0 hc90).trans0 hc94).trans0 hc100).trans0 hc101).trans0 hc110).thenS hc111 (by intro x hx; simp at hx; have := q58.size; have := hc77.size; have := hc78.size; omega)).trans0 hc127⟩

