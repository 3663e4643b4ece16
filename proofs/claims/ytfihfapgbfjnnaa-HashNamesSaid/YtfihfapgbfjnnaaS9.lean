/-
  Walks through the given program: each theorem fnN says what the call of function N of the translation hands back, for all arguments that its premises describe, and that nothing that was there has turned.
-/
import Derived.Test.YtfihfapgbfjnnaaS8
namespace Go.Proofs.Ytfihfapgbfjnnaa
open Go.Lane


theorem fn8 (w : World) : Rets Try.prog 8 #[] w (fun v w' => v = .bool true ∧ Ch [] w w') := by
  have hs0 := Sha.sum_len []
  refine Rets.of (n := 104) (vs := []) Try.func8 rfl rfl rfl ?_
  refine TC.seq ?_
  refine TC.region ?_
  refine TL.assign rfl rfl ?_
  refine TL.done ?_
  refine Thn.go ?_
  refine TC.seq ?_
  refine TC.region ?_
  refine TL.call can13 rfl rfl (fn13 _ [] (by decide) w (Rd.nil w 1)) (fun v15 w15 hr15 => ?_)
  obtain ⟨rfl, hc15⟩ := hr15
  refine TL.alloc ze30 rfl (fun w1 hb1 hc1 hz1 => ?_)
  refine TL.store sz30 rfl rfl (by simpa [Value.cells] using hs0) hb1 (by simp [Value.cells]) (by simpa [Value.cells] using one_u8 (Sha.sum [])) (.inl rfl) (fun ws1 hbs1 hcs1 hzs1 => ?_)
  replace hbs1 : Has ws1 w15.heap.size ((Sha.sum []).map u8).toArray 30 (0, 0) := hbs1.setAll (by simp [Value.cells, hs0])
  have z15 := hc15.size
  have q1 : Ch [] w ws1 := (hc15.trans0 hc1).then1 hcs1 z15
  refine TL.done ?_
  refine Thn.go ?_
  refine TC.seq ?_
  refine TC.region ?_
  refine TL.buildSlice (vs := [107, 101, 121].map u8) [.const (Value.int IntKind.u8 107), .const (Value.int IntKind.u8 101), .const (Value.int IntKind.u8 121)] sl22 rfl rfl rfl (by decide) (by simp [Value.cells]) rfl (fun w16 hb16 hc16 hz16 => ?_)
  refine TL.markBytes Try.underlying22 Try.underlying5 rfl (hb16) rfl (fun w17 hb17 hc17 hz17 => ?_)
  have q17 : Ch [] ws1 w17 := hc16.then1 hc17 (Nat.le_refl _)
  obtain ⟨K, hK⟩ : ∃ K : List UInt8, K = [107, 101, 121] := ⟨_, rfl⟩
  have hk17 : Rd w17 (.slice (some ⟨ws1.heap.size, 0, none⟩) 3 3) 1 K.length (K.map u8) := by subst hK; exact Rd.ofBytes [107, 101, 121] hb17 (by decide)
  refine TL.buildSlice (vs := [84, 104, 101, 32, 113, 117, 105, 99, 107, 32, 98, 114, 111, 119, 110, 32, 102, 111, 120, 32, 106, 117, 109, 112, 115, 32, 111, 118, 101, 114, 32, 116, 104, 101, 32, 108, 97, 122, 121, 32, 100, 111, 103].map u8) [.const (Value.int IntKind.u8 84), .const (Value.int IntKind.u8 104), .const (Value.int IntKind.u8 101), .const (Value.int IntKind.u8 32), .const (Value.int IntKind.u8 113), .const (Value.int IntKind.u8 117), .const (Value.int IntKind.u8 105), .const (Value.int IntKind.u8 99), .const (Value.int IntKind.u8 107), .const (Value.int IntKind.u8 32), .const (Value.int IntKind.u8 98), .const (Value.int IntKind.u8 114), .const (Value.int IntKind.u8 111), .const (Value.int IntKind.u8 119), .const (Value.int IntKind.u8 110), .const (Value.int IntKind.u8 32), .const (Value.int IntKind.u8 102), .const (Value.int IntKind.u8 111), .const (Value.int IntKind.u8 120), .const (Value.int IntKind.u8 32), .const (Value.int IntKind.u8 106), .const (Value.int IntKind.u8 117), .const (Value.int IntKind.u8 109), .const (Value.int IntKind.u8 112), .const (Value.int IntKind.u8 115), .const (Value.int IntKind.u8 32), .const (Value.int IntKind.u8 111), .const (Value.int IntKind.u8 118), .const (Value.int IntKind.u8 101), .const (Value.int IntKind.u8 114), .const (Value.int IntKind.u8 32), .const (Value.int IntKind.u8 116), .const (Value.int IntKind.u8 104), .const (Value.int IntKind.u8 101), .const (Value.int IntKind.u8 32), .const (Value.int IntKind.u8 108), .const (Value.int IntKind.u8 97), .const (Value.int IntKind.u8 122), .const (Value.int IntKind.u8 121), .const (Value.int IntKind.u8 32), .const (Value.int IntKind.u8 100), .const (Value.int IntKind.u8 111), .const (Value.int IntKind.u8 103)] sl22 rfl rfl rfl (by decide) (by simp [Value.cells]) rfl (fun w18 hb18 hc18 hz18 => ?_)
  refine TL.markBytes Try.underlying22 Try.underlying5 rfl (hb18) rfl (fun w19 hb19 hc19 hz19 => ?_)
  have q19 : Ch [] w17 w19 := hc18.then1 hc19 (Nat.le_refl _)
  obtain ⟨F, hF⟩ : ∃ F : List UInt8, F = [84, 104, 101, 32, 113, 117, 105, 99, 107, 32, 98, 114, 111, 119, 110, 32, 102, 111, 120, 32, 106, 117, 109, 112, 115, 32, 111, 118, 101, 114, 32, 116, 104, 101, 32, 108, 97, 122, 121, 32, 100, 111, 103] := ⟨_, rfl⟩
  have hf19 : Rd w19 (.slice (some ⟨w17.heap.size, 0, none⟩) 43 43) 1 F.length (F.map u8) := by subst hF; exact Rd.ofBytes [84, 104, 101, 32, 113, 117, 105, 99, 107, 32, 98, 114, 111, 119, 110, 32, 102, 111, 120, 32, 106, 117, 109, 112, 115, 32, 111, 118, 101, 114, 32, 116, 104, 101, 32, 108, 97, 122, 121, 32, 100, 111, 103] hb19 (by decide)
  have hfox : Hex.hexL (Sha.hmac K F) = [102, 55, 98, 99, 56, 51, 102, 52, 51, 48, 53, 51, 56, 52, 50, 52, 98, 49, 51, 50, 57, 56, 101, 54, 97, 97, 54, 102, 98, 49, 52, 51, 101, 102, 52, 100, 53, 57, 97, 49, 52, 57, 52, 54, 49, 55, 53, 57, 57, 55, 52, 55, 57, 100, 98, 99, 50, 100, 49, 97, 51, 99, 100, 56] := by subst hK; subst hF; decide +kernel
  refine TL.call can15 rfl rfl (fn15 _ _ K F (by subst hK; decide) (by subst hF; decide) w19 (hk17.ch0 q19) hf19) (fun v20 w20 hr20 => ?_)
  obtain ⟨rfl, hc20⟩ := hr20
  have hsl := Sha.hmac_len K F
  refine TL.alloc ze30 rfl (fun w2 hb2 hc2 hz2 => ?_)
  refine TL.store sz30 rfl rfl (by simpa [Value.cells] using hsl) hb2 (by simp [Value.cells]) (by simpa [Value.cells] using one_u8 (Sha.hmac K F)) (.inl rfl) (fun ws2 hbs2 hcs2 hzs2 => ?_)
  replace hbs2 : Has ws2 w20.heap.size ((Sha.hmac K F).map u8).toArray 30 (0, 0) := hbs2.setAll (by simp [Value.cells, hsl])
  have z20 := hc20.size
  have q2 : Ch [] ws1 ws2 := ((((q17.trans0 q19).trans0 hc20).trans0 hc2)).then1 hcs2 (by have := q17.size; have := q19.size; omega)
  refine TL.done ?_
  refine Thn.go ?_
  refine TC.seq ?_
  refine TC.region ?_
  refine TL.sliceArr ar30 rfl rfl ?_
  refine TL.call can11 rfl rfl (fn11 _ (Sha.sum []) ws2 (Rd.bytes _ (Rd.ofRow (m := 32) (hbs1.ch0 q2) (by simp [hs0]) (by decide)) hs0.symm rfl) (by omega)) (fun v22 w22 hr22 => ?_)
  obtain ⟨rfl, hc22⟩ := hr22
  refine TL.eqlStr rfl rfl rfl ?_
  refine TL.yes (by decide +kernel) ?_
  refine TL.move rfl rfl ?_
  refine TL.guardYes (d := 24) rfl rfl rfl ?_
  refine TL.sliceArr ar30 rfl rfl ?_
  refine TL.guardYes (d := 24) rfl rfl rfl ?_
  refine TL.call can11 rfl rfl (fn11 _ (Sha.hmac K F) w22 (Rd.bytes _ (Rd.ofRow (m := 32) (hbs2.ch0 hc22) (by simp [hsl]) (by decide)) hsl.symm rfl) (by omega)) (fun v26 w26 hr26 => ?_)
  obtain ⟨rfl, hc26⟩ := hr26
  refine TL.guardYes (d := 24) rfl rfl rfl ?_
  refine TL.eqlStr rfl rfl rfl ?_
  refine TL.yes (hfox) ?_
  refine TL.pickT rfl rfl rfl rfl ?_
  refine TL.assign rfl rfl ?_
  refine TL.done ?_
  refine Thn.go ?_
  refine TC.seq ?_
  refine TC.region ?_
  refine TL.call can9 rfl rfl (fn9 [48, 97, 70, 70] (by decide) w26) (fun v30 w30 hr30 => ?_)
  obtain ⟨r30, rfl, hv30, hc30⟩ := hr30
  refine TL.move rfl rfl ?_
  refine TL.extract rfl rfl rfl ?_
  refine TL.extract rfl rfl rfl ?_
  refine TL.assign rfl rfl ?_
  refine TL.assign rfl rfl ?_
  refine TL.done ?_
  refine Thn.go ?_
  refine TC.seq ?_
  refine TC.region ?_
  refine TL.call can9 rfl rfl (fn9 [97, 98, 99] (by decide) w30) (fun v34 w34 hr34 => ?_)
  obtain ⟨r34, rfl, hv34, hc34⟩ := hr34
  refine TL.move rfl rfl ?_
  refine TL.extract rfl rfl rfl ?_
  refine TL.extract rfl rfl rfl ?_
  refine TL.assign rfl rfl ?_
  refine TL.assign rfl rfl ?_
  refine TL.done ?_
  refine Thn.go ?_
  refine TC.seq ?_
  refine TC.region ?_
  refine TL.call can9 rfl rfl (fn9 [48, 48, 102, 102] (by decide) w34) (fun v38 w38 hr38 => ?_)
  obtain ⟨r38, rfl, hv38, hc38⟩ := hr38
  have hL : Hex.unL [48, 48, 102, 102] = [0, 255] := by decide +kernel
  rw [hL] at hv38
  obtain ⟨g38, c38, rfl⟩ := hv38.form (by decide)
  refine TL.move rfl rfl ?_
  refine TL.extract rfl rfl rfl ?_
  refine TL.extract rfl rfl rfl ?_
  refine TL.assign rfl rfl ?_
  refine TL.assign rfl rfl ?_
  refine TL.done ?_
  refine Thn.go ?_
  refine TC.seq ?_
  refine TC.region ?_
  refine TL.call can20 rfl rfl (fn20 [97] [98] 0 w38) (fun v42 w42 hr42 => ?_)
  obtain ⟨rfl, hc42⟩ := hr42
  refine TL.move rfl rfl ?_
  refine TL.extract rfl rfl rfl ?_
  refine TL.extract rfl rfl rfl ?_
  refine TL.assign rfl rfl ?_
  refine TL.assign rfl rfl ?_
  refine TL.done ?_
  refine Thn.go ?_
  refine TC.seq ?_
  refine TC.region ?_
  refine TL.call can20 rfl rfl (fn20 [97] [98] 65 w42) (fun v46 w46 hr46 => ?_)
  obtain ⟨rfl, hc46⟩ := hr46
  have q46 : Ch [] w w46 := ((((((((q1.trans0 q2).trans0 hc22).trans0 hc26).trans0 hc30).trans0 hc34).trans0 hc38).trans0 hc42).trans0 hc46)
  have hr : Rd w46 (.slice (some ⟨g38, 0, none⟩) 2 c38) 1 2 ([0, 255].map u8) := ((Rd.ofOwn hv38).ch0 hc42).ch0 hc46
  refine TL.move rfl rfl ?_
  refine TL.extract rfl rfl rfl ?_
  refine TL.extract rfl rfl rfl ?_
  refine TL.assign rfl rfl ?_
  refine TL.assign rfl rfl ?_
  refine TL.done ?_
  refine Thn.go ?_
  refine TC.seq ?_
  refine TC.region ?_
  refine TL.move rfl rfl ?_
  refine TL.eql rfl rfl rfl ?_
  refine TL.yes (by decide +kernel) ?_
  refine TL.move rfl rfl ?_
  refine TL.guardYes (d := 51) rfl rfl rfl ?_
  refine TL.move rfl rfl ?_
  refine TL.guardYes (d := 51) rfl rfl rfl ?_
  refine TL.eql rfl rfl rfl ?_
  refine TL.yes (by decide +kernel) ?_
  refine TL.pickT rfl rfl rfl rfl ?_
  refine TL.move rfl rfl ?_
  refine TL.guardYes (d := 55) rfl rfl rfl ?_
  refine TL.move rfl rfl ?_
  refine TL.guardYes (d := 55) rfl rfl rfl ?_
  refine TL.eql rfl rfl rfl ?_
  refine TL.yes (by decide +kernel) ?_
  refine TL.pickT rfl rfl rfl rfl ?_
  refine TL.move rfl rfl ?_
  refine TL.guardYes (d := 59) rfl rfl rfl ?_
  refine TL.move rfl rfl ?_
  refine TL.guardYes (d := 59) rfl rfl rfl ?_
  refine TL.lenSlice Try.underlying22 rfl rfl ?_
  refine TL.guardYes (d := 59) rfl rfl rfl ?_
  refine TL.eql rfl rfl rfl ?_
  refine TL.yes (by decide) ?_
  refine TL.pickT rfl rfl rfl rfl ?_
  refine TL.move rfl rfl ?_
  refine TL.guardYes (d := 64) rfl rfl rfl ?_
  refine TL.move rfl rfl ?_
  refine TL.guardYes (d := 64) rfl rfl rfl ?_
  refine TL.indexAddr 0 sl22 rfl rfl rfl (by decide) rfl ?_
  refine TL.guardYes (d := 64) rfl rfl rfl ?_
  refine TL.load pl5 rfl (byteIn (l := [0, 255]) hr (by decide)) rfl ?_
  refine TL.guardYes (d := 64) rfl rfl rfl ?_
  refine TL.eql rfl rfl rfl ?_
  refine TL.yes (by decide) ?_
  refine TL.pickT rfl rfl rfl rfl ?_
  refine TL.move rfl rfl ?_
  refine TL.guardYes (d := 70) rfl rfl rfl ?_
  refine TL.move rfl rfl ?_
  refine TL.guardYes (d := 70) rfl rfl rfl ?_
  refine TL.indexAddr 1 sl22 rfl rfl rfl (by decide) rfl ?_
  refine TL.guardYes (d := 70) rfl rfl rfl ?_
  refine TL.load pl5 rfl (byteIn (l := [0, 255]) hr (by decide)) rfl ?_
  refine TL.guardYes (d := 70) rfl rfl rfl ?_
  refine TL.eql rfl rfl rfl ?_
  refine TL.yes (by decide) ?_
  refine TL.pickT rfl rfl rfl rfl ?_
  refine TL.move rfl rfl ?_
  refine TL.guardYes (d := 76) rfl rfl rfl ?_
  refine TL.move rfl rfl ?_
  refine TL.guardYes (d := 76) rfl rfl rfl ?_
  refine TL.eql rfl rfl rfl ?_
  refine TL.yes (by decide +kernel) ?_
  refine TL.pickT rfl rfl rfl rfl ?_
  refine TL.move rfl rfl ?_
  refine TL.guardYes (d := 80) rfl rfl rfl ?_
  refine TL.move rfl rfl ?_
  refine TL.guardYes (d := 80) rfl rfl rfl ?_
  refine TL.eql rfl rfl rfl ?_
  refine TL.yes (by decide +kernel) ?_
  refine TL.pickT rfl rfl rfl rfl ?_
  refine TL.assign rfl rfl ?_
  refine TL.done ?_
  refine Thn.go ?_
  refine TC.seq ?_
  refine TC.region ?_
  refine TL.move rfl rfl ?_
  refine TL.guardYes (d := 84) rfl rfl rfl ?_
  refine TL.call can19 rfl rfl (fn19 w46) (fun v85 w85 hr85 => ?_)
  obtain ⟨rfl, hc85⟩ := hr85
  refine TL.pickT rfl rfl rfl rfl ?_
  refine TL.move rfl rfl ?_
  refine TL.guardYes (d := 87) rfl rfl rfl ?_
  refine TL.move rfl rfl ?_
  refine TL.pickT rfl rfl rfl rfl ?_
  refine TL.move rfl rfl ?_
  refine TL.guardYes (d := 90) rfl rfl rfl ?_
  refine TL.move rfl rfl ?_
  refine TL.pickT rfl rfl rfl rfl ?_
  refine TL.move rfl rfl ?_
  refine TL.guardYes (d := 93) rfl rfl rfl ?_
  refine TL.call can17 rfl rfl (fn17 _ _ [] [] w85 (Rd.nil _ 1) (Rd.nil _ 1)) (fun v94 w94 hr94 => ?_)
  obtain ⟨rfl, hc94⟩ := hr94
  refine TL.yes (rfl) ?_
  refine TL.pickT rfl rfl rfl rfl ?_
  refine TL.move rfl rfl ?_
  refine TL.guardYes (d := 96) rfl rfl rfl ?_
  refine TL.buildSlice (vs := [97].map u8) [.const (Value.int IntKind.u8 97)] sl22 rfl rfl rfl (by decide) (by simp [Value.cells]) rfl (fun w97 hb97 hc97 hz97 => ?_)
  refine TL.guardYes (d := 96) rfl rfl rfl ?_
  refine TL.markBytes Try.underlying22 Try.underlying5 rfl (hb97) rfl (fun w98 hb98 hc98 hz98 => ?_)
  have hr98 := Rd.ofBytes [97] hb98 (by decide)
  have q98 : Ch [] w94 w98 := hc97.then1 hc98 (Nat.le_refl _)
  refine TL.guardYes (d := 96) rfl rfl rfl ?_
  refine TL.buildSlice (vs := [98].map u8) [.const (Value.int IntKind.u8 98)] sl22 rfl rfl rfl (by decide) (by simp [Value.cells]) rfl (fun w99 hb99 hc99 hz99 => ?_)
  refine TL.guardYes (d := 96) rfl rfl rfl ?_
  refine TL.markBytes Try.underlying22 Try.underlying5 rfl (hb99) rfl (fun w100 hb100 hc100 hz100 => ?_)
  have hr100 := Rd.ofBytes [98] hb100 (by decide)
  have q100 : Ch [] w98 w100 := hc99.then1 hc100 (Nat.le_refl _)
  refine TL.guardYes (d := 96) rfl rfl rfl ?_
  refine TL.call can17 rfl rfl (fn17 _ _ [97] [98] w100 (hr98.ch0 q100) hr100) (fun v101 w101 hr101 => ?_)
  obtain ⟨rfl, hc101⟩ := hr101
  refine TL.no (by decide) ?_
  refine TL.guardYes (d := 96) rfl rfl rfl ?_
  refine TL.not rfl rfl ?_
  refine TL.pickT rfl rfl rfl rfl ?_
  refine TL.assign rfl rfl ?_
  refine TL.done ?_
  refine Thn.go ?_
  refine TC.ret ?_
  refine Ends.ret [0] rfl rfl ?_
  exact ⟨rfl, ((((q46.trans0 hc85).trans0 hc94).trans0 q98).trans0 q100).trans0 hc101⟩

