/-
  Walks through the given program: each theorem fnN says what the call of function N of the translation hands back, for all arguments that its premises describe, and that nothing that was there has turned.
-/
import Derived.Test.YtmfclhhnkocgiaaF3
import Derived.Test.YtmfclhhnkocgiaaSums
namespace Go.Proofs.Ytmfclhhnkocgiaa
open Go.Lane

theorem fn26 (a : Value) (l : List UInt8) (w : World) (ha : Rd w a 1 l.length (l.map u8)) : Rets Try.prog 26 #[a] w (fun v w' => v = u32 (Bits.sumT l) ∧ w' = w) := by
  obtain ⟨ad, c, rfl, _⟩ := ha.shape
  have hmx : l.length ≤ 9223372036854775807 := ha.nlt
  refine Rets.of (n := 34) (vs := [_]) Try.func26 rfl rfl rfl ?_
  refine TC.seq ?_
  refine TC.region ?_
  refine TL.assign rfl rfl ?_
  refine TL.done ?_
  refine Thn.go ?_
  refine TC.seq ?_
  refine TC.region ?_
  refine TL.assign rfl rfl ?_
  refine TL.done ?_
  refine Thn.go ?_
  refine TC.seq ?_
  refine TC.seq ?_
  refine TC.region ?_
  refine TL.assign rfl rfl ?_
  refine TL.done ?_
  refine Thn.go ?_
  refine TC.block ?_
  refine TC.loop1 (fun (k : Nat) => [(0, .slice ad l.length c), (3, u32 ((l.take k).foldl Bits.stepT 4294967295)), (4, .int .i64 (k : Int))]) (fun k w' => k ≤ l.length ∧ w' = w) (fun k => l.length - k) 0 (by repeat (first | exact trivial | refine ⟨rfl, ?_⟩)) (⟨by omega, rfl⟩) (fun k w' hH => ?_)
  obtain ⟨hk, rfl⟩ := hH
  refine TC.seq ?_
  refine TC.seq ?_
  refine TC.region ?_
  refine TL.move rfl rfl ?_
  refine TL.move rfl rfl ?_
  refine TL.lenSlice Try.underlying22 rfl rfl ?_
  refine TL.lss rfl rfl rfl ?_
  refine TL.done ?_
  refine Thn.go ?_
  refine TC.condP rfl (fun h1 => ?_) (fun h1 => ?_)
  ·
    have hkl : k < l.length := by omega
    obtain ⟨b, off, rfl, hcell⟩ := ha.byteAt hkl
    refine TC.skip ?_
    refine Thn.go ?_
    refine TC.seq ?_
    refine TC.block ?_
    refine TC.seq ?_
    refine TC.region ?_
    refine TL.move rfl rfl ?_
    refine TL.move rfl rfl ?_
    refine TL.move rfl rfl ?_
    refine TL.indexAddr (k) sl22 rfl rfl (by first | rfl | omega) (by omega) rfl ?_
    refine TL.load pl5 rfl (hcell) rfl ?_
    refine TL.conv_u32 Try.underlying5 Try.underlying23 rfl rfl ?_
    refine TL.xor_u32 rfl rfl rfl ?_
    refine TL.assign rfl rfl ?_
    refine TL.done ?_
    refine Thn.go ?_
    refine TC.seq ?_
    refine TC.region ?_
    refine TL.assign rfl rfl ?_
    refine TL.done ?_
    refine Thn.go ?_
    refine TC.block ?_
    refine TC.loop1 (fun (j : Nat) => [(0, .slice (some ⟨b, off, none⟩) l.length c), (3, u32 (Bits.bits j ((l.take k).foldl Bits.stepT 4294967295 ^^^ UInt32.ofNat (l.getD k 0).toNat))), (4, .int .i64 (k : Int)), (5, .int .i64 (j : Int))]) (fun j w2 => j ≤ 8 ∧ w2 = w') (fun j => 8 - j) 0 (by repeat (first | exact trivial | refine ⟨rfl, ?_⟩)) (⟨by omega, rfl⟩) (fun j w2 hH => ?_)
    obtain ⟨hj, rfl⟩ := hH
    refine TC.seq ?_
    refine TC.seq ?_
    refine TC.region ?_
    refine TL.move rfl rfl ?_
    refine TL.lss rfl rfl rfl ?_
    refine TL.done ?_
    refine Thn.go ?_
    refine TC.condP rfl (fun h2 => ?_) (fun h2 => ?_)
    ·
      refine TC.skip ?_
      refine Thn.go ?_
      refine TC.seq ?_
      refine TC.block ?_
      refine TC.seq ?_
      refine TC.region ?_
      refine TL.move rfl rfl ?_
      refine TL.rem_u32 (b := 2) rfl rfl (by decide) rfl ?_
      refine TL.eql rfl rfl rfl ?_
      refine TL.assign rfl rfl ?_
      refine TL.done ?_
      refine Thn.go ?_
      refine TC.seq ?_
      refine TC.region ?_
      refine TL.move rfl rfl ?_
      refine TL.quo_u32 (b := 2) rfl rfl (by decide) rfl ?_
      refine TL.assign rfl rfl ?_
      refine TL.done ?_
      refine Thn.go ?_
      refine TC.seq ?_
      refine TC.region ?_
      refine TL.move rfl rfl ?_
      refine TL.done ?_
      refine Thn.go ?_
      refine TC.condP rfl (fun h3 => ?_) (fun h3 => ?_)
      ·
        refine TC.region ?_
        refine TL.move rfl rfl ?_
        refine TL.xor_u32 (b := 3988292384) rfl rfl rfl ?_
        refine TL.top (v' := u32 (Bits.bits (j + 1) ((l.take k).foldl Bits.stepT 4294967295 ^^^ UInt32.ofNat (l.getD k 0).toNat))) (by rw [Bits.bits, Bits.bit, if_pos (UInt32.toNat.inj (by show _ = 1; omega))]) ?_
        refine TL.assign rfl rfl ?_
        refine TL.done ?_
        refine Blk.go ?_
        refine Thn.go ?_
        refine TC.region ?_
        refine TL.move rfl rfl ?_
        refine TL.add_i64 rfl rfl (by omega) (by omega) rfl ?_
        refine TL.assign rfl rfl ?_
        refine TL.done ?_
        refine Lp.go (j + 1) (by repeat (first | exact trivial | refine ⟨rfl, ?_⟩)) ?_ (by first | omega | (dsimp only; omega))
        exact ⟨by omega, rfl⟩
      ·
        have h4 : ¬ Bits.bits j ((l.take k).foldl Bits.stepT 4294967295 ^^^ UInt32.ofNat (l.getD k 0).toNat) % 2 = 1 := fun e => h3 (by rw [e]; rfl)
        have h5 : Bits.bits j ((l.take k).foldl Bits.stepT 4294967295 ^^^ UInt32.ofNat (l.getD k 0).toNat) / 2 = Bits.bits (j + 1) ((l.take k).foldl Bits.stepT 4294967295 ^^^ UInt32.ofNat (l.getD k 0).toNat) := by rw [Bits.bits, Bits.bit, if_neg h4]
        rw [h5]
        refine TC.skip ?_
        refine Blk.go ?_
        refine Thn.go ?_
        refine TC.region ?_
        refine TL.move rfl rfl ?_
        refine TL.add_i64 rfl rfl (by omega) (by omega) rfl ?_
        refine TL.assign rfl rfl ?_
        refine TL.done ?_
        refine Lp.go (j + 1) (by repeat (first | exact trivial | refine ⟨rfl, ?_⟩)) ?_ (by first | omega | (dsimp only; omega))
        exact ⟨by omega, rfl⟩
    ·
      have hj8 : j = 8 := by omega
      have hstep : Bits.bits j ((l.take k).foldl Bits.stepT 4294967295 ^^^ UInt32.ofNat (l.getD k 0).toNat) = (l.take (k + 1)).foldl Bits.stepT 4294967295 := by
        rw [hj8, Bits.bits8, List.take_add_one, List.foldl_append, List.getElem?_eq_getElem hkl, List.getD_eq_getElem?_getD, List.getElem?_eq_getElem hkl]; rfl
      rw [hstep]
      refine TC.exit ?_
      refine Thn.exit ?_
      refine Lp.exit ?_
      refine Blk.hit ?_
      refine Blk.go ?_
      refine Thn.go ?_
      refine TC.region ?_
      refine TL.move rfl rfl ?_
      refine TL.add_i64 rfl rfl (by omega) (by omega) rfl ?_
      refine TL.assign rfl rfl ?_
      refine TL.done ?_
      refine Lp.go (k + 1) (by repeat (first | exact trivial | refine ⟨rfl, ?_⟩)) ?_ (by first | omega | (dsimp only; omega))
      exact ⟨by omega, rfl⟩
  ·
    have hkl : k = l.length := by omega
    rw [hkl, List.take_length]
    refine TC.exit ?_
    refine Thn.exit ?_
    refine Lp.exit ?_
    refine Blk.hit ?_
    refine Thn.go ?_
    refine TC.seq ?_
    refine TC.region ?_
    refine TL.move rfl rfl ?_
    refine TL.compl_u32 rfl rfl ?_
    refine TL.assign rfl rfl ?_
    refine TL.done ?_
    refine Thn.go ?_
    refine TC.ret ?_
    refine Ends.ret [2] rfl rfl ?_
    exact ⟨rfl, rfl⟩

theorem fn28 (a : Value) (l : List UInt8) (hl : l.length ≤ 1099511627776) (w : World) (ha : Rd w a 1 l.length (l.map u8)) : Rets Try.prog 28 #[a] w (fun v w' => Own w' w.heap.size 5 1 v l.length (l.map u8) ∧ Ch [] w w') := by
  obtain ⟨ad, c, rfl, hnil⟩ := ha.shape
  have hmx : l.length ≤ maxLen := ha.nlt
  have hmm : maxLen = 9223372036854775807 := rfl
  refine Rets.of (n := 8) (vs := [_]) Try.func28 rfl rfl rfl ?_
  refine TC.seq ?_
  refine TC.region ?_
  refine TL.assign rfl rfl ?_
  refine TL.done ?_
  refine Thn.go ?_
  refine TC.seq ?_
  refine TC.seq ?_
  refine TC.region ?_
  refine TL.move rfl rfl ?_
  refine TL.eqlNil Try.underlying22 rfl rfl rfl ?_
  refine TL.done ?_
  refine Thn.go ?_
  refine TC.condP rfl (fun h1 => ?_) (fun h1 => ?_)
  ·
    have h0 : l = [] := List.eq_nil_of_length_eq_zero (hnil h1)
    subst h0
    refine TC.seq ?_
    refine TC.region ?_
    refine TL.assign rfl rfl ?_
    refine TL.done ?_
    refine Thn.go ?_
    refine TC.ret ?_
    refine Thn.ret ?_
    refine Ends.ret [2] rfl rfl ?_
    exact ⟨World.ownsRow_nil _ _ _ _, Ch.refl _ _⟩
  ·
    refine TC.skip ?_
    refine Thn.go ?_
    refine TC.seq ?_
    refine TC.region ?_
    refine TL.buildSlice [] sl22 rfl rfl rfl (by decide) (by simp [Value.cells]) rfl (fun w5 hb5 hc5 hz5 => ?_)
    have ho5 : Own w5 w.heap.size 5 1 (.slice (some ⟨w.heap.size, 0, none⟩) 0 0) 0 [] := Own.ofBytes [] hb5 (Nat.le_refl _) (by simp)
    refine TL.move rfl rfl ?_
    refine TL.append sl22 rfl rfl rfl (ho5) (News.ofRd Try.underlying22 (ha.ch0 hc5) (one_u8 _)) (by omega) (by omega) (by omega) (fun v7 w7 hv7 hc7 _ => ?_)
    refine TL.assign rfl rfl ?_
    refine TL.done ?_
    refine Thn.go ?_
    refine TC.ret ?_
    refine Ends.ret [2] rfl rfl ?_
    exact ⟨by rw [Nat.zero_add] at hv7; exact hv7, ho5.thenCh hc5 hc7⟩

theorem fn24 (s : List UInt8) (hs : s.length ≤ 1099511627776) (w : World) : Rets Try.prog 24 #[str s] w (fun v w' => Own w' w.heap.size 5 1 v (Bits.text s).length ((Bits.text s).map u8) ∧ Ch [] w w') := by
  have hmm : maxLen = 9223372036854775807 := rfl
  have hten := Bits.small_len64 (UInt64.ofNat s.length)
  have hn : (UInt64.ofNat s.length).toNat = s.length := by rw [UInt64.toNat_ofNat']; omega
  refine Rets.of (n := 9) (vs := [_]) Try.func24 rfl rfl rfl ?_
  refine TC.seq ?_
  refine TC.region ?_
  refine TL.assign rfl rfl ?_
  refine TL.done ?_
  refine Thn.go ?_
  refine TC.seq ?_
  refine TC.region ?_
  refine TL.move rfl rfl ?_
  refine TL.lenStr Try.underlying9 rfl rfl ?_
  refine TL.conv_u64 (m := s.length) Try.underlying3 Try.underlying28 rfl rfl ?_
  refine TL.call can13 rfl rfl (fn13 (UInt64.ofNat s.length) w) (fun v6 w6 hr6 => ?_)
  obtain ⟨hv6, hc6⟩ := hr6
  rw [hn] at hv6 hten
  have hsz := hc6.size
  refine TL.move rfl rfl ?_
  refine TL.append sl22 rfl rfl rfl (hv6) (News.ofString Try.underlying9) (by omega) (by omega) (by omega) (fun v8 w8 hv8 hc8 _ => ?_)
  refine TL.assign rfl rfl ?_
  refine TL.done ?_
  refine Thn.go ?_
  refine TC.ret ?_
  refine Ends.ret [2] rfl rfl ?_
  exact ⟨by rw [Bits.text, List.length_append, List.map_append]; exact hv8, hv6.thenCh hc6 hc8⟩

theorem fn25 (s : List UInt8) (hs : s.length ≤ 1099511627776) (w : World) : Rets Try.prog 25 #[str s] w (fun v w' => Own w' w.heap.size 5 1 v (Bits.text s).length ((Bits.text s).map u8) ∧ Ch [] w w') := by
  have hmm : maxLen = 9223372036854775807 := rfl
  have hten := Bits.small_len64 (UInt64.ofNat s.length)
  have hn : (UInt64.ofNat s.length).toNat = s.length := by rw [UInt64.toNat_ofNat']; omega
  refine Rets.of (n := 9) (vs := [_]) Try.func25 rfl rfl rfl ?_
  refine TC.seq ?_
  refine TC.region ?_
  refine TL.assign rfl rfl ?_
  refine TL.done ?_
  refine Thn.go ?_
  refine TC.seq ?_
  refine TC.region ?_
  refine TL.move rfl rfl ?_
  refine TL.lenStr Try.underlying9 rfl rfl ?_
  refine TL.conv_u64 (m := s.length) Try.underlying3 Try.underlying28 rfl rfl ?_
  refine TL.call can21 rfl rfl (fn21 (UInt64.ofNat s.length) w) (fun v6 w6 hr6 => ?_)
  obtain ⟨hv6, hc6⟩ := hr6
  rw [hn] at hv6 hten
  have hsz := hc6.size
  refine TL.move rfl rfl ?_
  refine TL.append sl22 rfl rfl rfl (hv6) (News.ofString Try.underlying9) (by omega) (by omega) (by omega) (fun v8 w8 hv8 hc8 _ => ?_)
  refine TL.assign rfl rfl ?_
  refine TL.done ?_
  refine Thn.go ?_
  refine TC.ret ?_
  refine Ends.ret [2] rfl rfl ?_
  exact ⟨by rw [Bits.text, List.length_append, List.map_append]; exact hv8, hv6.thenCh hc6 hc8⟩

theorem fn22 (a : Value) (l : List UInt8) (hl : l.length ≤ 1099511627776) (w : World) (ha : Rd w a 1 l.length (l.map u8)) : Rets Try.prog 22 #[a] w (fun v w' => ∃ r, v = .tuple #[str (Bits.cutS l), r, .int .i64 (Bits.cutE l : Int)] ∧ Own w' w.heap.size 5 1 r (Bits.cutR l).length ((Bits.cutR l).map u8) ∧ Ch [] w w') := by
  obtain ⟨ad, c, rfl, hnil⟩ := ha.shape
  have hK := Bits.rdK_le l
  have hcap := ha.cap
  have hN := Bits.rdN_lt l
  have hn : (UInt64.ofNat (Bits.rdN (Bits.read l))).toNat = Bits.rdN (Bits.read l) := by rw [UInt64.toNat_ofNat']; omega
  have hm : (UInt64.ofNat (l.length - Bits.rdK (Bits.read l))).toNat = l.length - Bits.rdK (Bits.read l) := by rw [UInt64.toNat_ofNat']; omega
  refine Rets.of (n := 36) (vs := [_]) Try.func22 rfl rfl rfl ?_
  refine TC.seq ?_
  refine TC.region ?_
  refine TL.assign rfl rfl ?_
  refine TL.assign rfl rfl ?_
  refine TL.assign rfl rfl ?_
  refine TL.done ?_
  refine Thn.go ?_
  refine TC.seq ?_
  refine TC.region ?_
  refine TL.move rfl rfl ?_
  refine TL.call can17 rfl rfl (fn17 _ l w ha) (fun v10 w10 hr10 => ?_)
  obtain ⟨rfl, rfl⟩ := hr10
  refine TL.move rfl rfl ?_
  refine TL.extract rfl rfl rfl ?_
  refine TL.extract rfl rfl rfl ?_
  refine TL.extract rfl rfl rfl ?_
  refine TL.assign rfl rfl ?_
  refine TL.assign rfl rfl ?_
  refine TL.assign rfl rfl ?_
  refine TL.done ?_
  refine Thn.go ?_
  refine TC.seq ?_
  refine TC.regionBool (d := 24) (p := (Bits.rdE (Bits.read l) ≠ 0 ∨ l.length - Bits.rdK (Bits.read l) < Bits.rdN (Bits.read l))) (fun K1 hK1 => ?_) ?_
  ·
    refine TL.move rfl rfl ?_
    refine TL.neq rfl rfl rfl ?_
    refine TL.em (fun e15 => ?_) (fun e15 => ?_)
    ·
      refine TL.move rfl rfl ?_
      refine TL.guardNo (d := 16) rfl rfl rfl rfl rfl ?_
      refine TL.guardNo (d := 16) rfl rfl rfl rfl rfl ?_
      refine TL.guardNo (d := 16) rfl rfl rfl rfl rfl ?_
      refine TL.guardNo (d := 16) rfl rfl rfl rfl rfl ?_
      refine TL.guardNo (d := 16) rfl rfl rfl rfl rfl ?_
      refine TL.guardNo (d := 16) rfl rfl rfl rfl rfl ?_
      refine TL.guardNo (d := 16) rfl rfl rfl rfl rfl ?_
      refine TL.pickT rfl rfl rfl rfl ?_
      refine TL.done ?_
      refine hK1 _ ?_
      refine Le.here rfl (by first | exact decide_eq_true (by omega) | exact decide_eq_false (by omega) | exact decide_eq_decide.2 (by omega)) ?_
      repeat (first | exact Le.refl _ | refine Le.skip rfl ?_)
    ·
      refine TL.move rfl rfl ?_
      refine TL.guardYes (d := 16) rfl rfl rfl ?_
      refine TL.move rfl rfl ?_
      refine TL.guardYes (d := 16) rfl rfl rfl ?_
      refine TL.move rfl rfl ?_
      refine TL.guardYes (d := 16) rfl rfl rfl ?_
      refine TL.lenSlice Try.underlying22 rfl rfl ?_
      refine TL.guardYes (d := 16) rfl rfl rfl ?_
      refine TL.move rfl rfl ?_
      refine TL.guardYes (d := 16) rfl rfl rfl ?_
      refine TL.sub_i64 rfl rfl (by omega) (by omega) rfl ?_
      refine TL.guardYes (d := 16) rfl rfl rfl ?_
      refine TL.convI_u64 Try.underlying3 Try.underlying28 rfl rfl ?_
      refine TL.top (v' := u64 (UInt64.ofNat (l.length - Bits.rdK (Bits.read l)))) (by congr 2; omega) ?_
      refine TL.guardYes (d := 16) rfl rfl rfl ?_
      refine TL.gtr rfl rfl rfl ?_
      refine TL.pickF rfl rfl rfl rfl ?_
      refine TL.done ?_
      refine hK1 _ ?_
      refine Le.here rfl (by first | exact decide_eq_true (by omega) | exact decide_eq_false (by omega) | exact decide_eq_decide.2 (by omega)) ?_
      repeat (first | exact Le.refl _ | refine Le.skip rfl ?_)
  refine TC.condP rfl (fun h3 => ?_) (fun h3 => ?_)
  ·
    have hcut := Bits.cut_none h3
    refine TC.seq ?_
    refine TC.region ?_
    refine TL.assign rfl rfl ?_
    refine TL.assign rfl rfl ?_
    refine TL.assign rfl rfl ?_
    refine TL.done ?_
    refine Thn.go ?_
    refine TC.ret ?_
    refine Thn.ret ?_
    refine Ends.ret [2, 3, 4] rfl rfl ?_
    exact ⟨_, by unfold Bits.cutS Bits.cutE; rw [hcut]; rfl, by unfold Bits.cutR; rw [hcut]; exact World.ownsRow_nil _ _ _ _, Ch.refl _ _⟩
  ·
    have hcut := Bits.cut_some h3
    refine TC.skip ?_
    refine Thn.go ?_
    refine TC.seq ?_
    refine TC.region ?_
    refine TL.move rfl rfl ?_
    refine TL.move rfl rfl ?_
    refine TL.sliceFrom (Bits.rdK (Bits.read l)) sl22 rfl rfl (by first | rfl | omega) (by omega) rfl ?_
    have hb : Rd w10 (.slice (adv ad c (Bits.rdK (Bits.read l)) 1) (l.length - Bits.rdK (Bits.read l)) (c - Bits.rdK (Bits.read l))) 1 (l.length - Bits.rdK (Bits.read l)) ((l.drop (Bits.rdK (Bits.read l))).map u8) := by
      have := ha.behind hK
      simpa using this
    refine TL.assign rfl rfl ?_
    refine TL.done ?_
    refine Thn.go ?_
    refine TC.seq ?_
    refine TC.regionH (fun w' => Ch [] w10 w') mixed0 ?_
    have hS : (fun w' => Ch [] w10 w') _ := Ch.drew _ _
    refine TH.take (i := 0) rfl rfl rfl rfl rfl (by kernel_rfl) (by kernel_rfl) (by kernel_rfl) hS (fun w2 hw2 => TL.move rfl rfl (TL.done ⟨rfl, rfl⟩)) ?_
    refine TH.take (i := 1) rfl rfl rfl rfl rfl (by kernel_rfl) (by kernel_rfl) (by kernel_rfl) hS (fun w2 hw2 => TL.move rfl rfl (TL.done ⟨rfl, rfl⟩)) ?_
    refine TH.take (i := 2) rfl rfl rfl rfl rfl (by kernel_rfl) (by kernel_rfl) (by kernel_rfl) hS (fun w2 hw2 => TL.sliceTo (Bits.rdN (Bits.read l)) sl22 rfl rfl (by first | rfl | omega) (by omega) rfl (TL.done ⟨rfl, rfl⟩)) ?_
    refine TH.take (i := 3) rfl rfl rfl rfl rfl (by kernel_rfl) (by kernel_rfl) (by kernel_rfl) hS (fun w2 hw2 => TL.bytesToStr Try.underlying22 Try.underlying5 Try.underlying9 rfl (Rd.bytes ((l.drop (Bits.rdK (Bits.read l))).take (Bits.rdN (Bits.read l))) ((hb.ch0 hw2).to (by omega)) (by simp; omega) (by simp)) rfl (TL.done ⟨rfl, rfl⟩)) ?_
    refine TH.take (i := 4) rfl rfl rfl rfl rfl (by kernel_rfl) (by kernel_rfl) (by kernel_rfl) hS (fun w2 hw2 => TL.move rfl rfl (TL.done ⟨rfl, rfl⟩)) ?_
    refine TH.take (i := 5) rfl rfl rfl rfl rfl (by kernel_rfl) (by kernel_rfl) (by kernel_rfl) hS (fun w2 hw2 => TL.move rfl rfl (TL.done ⟨rfl, rfl⟩)) ?_
    refine TH.take (i := 6) rfl rfl rfl rfl rfl (by kernel_rfl) (by kernel_rfl) (by kernel_rfl) hS (fun w2 hw2 => TL.sliceFrom (Bits.rdN (Bits.read l)) sl22 rfl rfl (by first | rfl | omega) (by omega) rfl (TL.done ⟨rfl, rfl⟩)) ?_
    refine TH.one (i := 7) (by kernel_rfl) rfl rfl ?_
    refine TL.call can28 rfl rfl (fn28 _ ((l.drop (Bits.rdK (Bits.read l))).drop (Bits.rdN (Bits.read l))) (by simp; omega) w10.drew (Rd.bytes _ ((hb.ch0 hS).behind (by omega)) (by simp; omega) (by simp))) (fun v35 w35 hr35 => ?_)
    obtain ⟨hv35, hc35⟩ := hr35
    have hS : (fun w' => Ch [] w10 w') _ := Ch.trans0 hS hc35
    refine TL.done ⟨hS, ?_⟩
    refine TH.take (i := 8) rfl rfl rfl rfl rfl (by kernel_rfl) (by kernel_rfl) (by kernel_rfl) hS (fun w2 hw2 => TL.assign rfl rfl (TL.done ⟨rfl, rfl⟩)) ?_
    refine TH.take (i := 9) rfl rfl rfl rfl rfl (by kernel_rfl) (by kernel_rfl) (by kernel_rfl) hS (fun w2 hw2 => TL.assign rfl rfl (TL.done ⟨rfl, rfl⟩)) ?_
    refine TH.take (i := 10) rfl rfl rfl rfl rfl (by kernel_rfl) (by kernel_rfl) (by kernel_rfl) hS (fun w2 hw2 => TL.assign rfl rfl (TL.done ⟨rfl, rfl⟩)) ?_
    refine TH.done (by kernel_rfl) ?_
    refine Thn.go ?_
    refine TC.ret ?_
    refine Ends.ret [2, 3, 4] rfl rfl ?_
    exact ⟨_, by unfold Bits.cutS Bits.cutE; rw [hcut]; rfl, by unfold Bits.cutR; rw [hcut]; exact hv35, hS⟩

theorem fn23 (a : Value) (l : List UInt8) (hl : l.length ≤ 1099511627776) (w : World) (ha : Rd w a 1 l.length (l.map u8)) : Rets Try.prog 23 #[a] w (fun v w' => ∃ r, v = .tuple #[str (Bits.cutS l), r, .int .i64 (Bits.cutE l : Int)] ∧ Own w' w.heap.size 5 1 r (Bits.cutR l).length ((Bits.cutR l).map u8) ∧ Ch [] w w') := by
  obtain ⟨ad, c, rfl, hnil⟩ := ha.shape
  have hmm : maxLen = 9223372036854775807 := rfl
  have hK := Bits.rdK_le l
  have hcap := ha.cap
  have hN := Bits.rdN_lt l
  have hn : (UInt64.ofNat (Bits.rdN (Bits.read l))).toNat = Bits.rdN (Bits.read l) := by rw [UInt64.toNat_ofNat']; omega
  have hm : (UInt64.ofNat (l.length - Bits.rdK (Bits.read l))).toNat = l.length - Bits.rdK (Bits.read l) := by rw [UInt64.toNat_ofNat']; omega
  refine Rets.of (n := 42) (vs := [_]) Try.func23 rfl rfl rfl ?_
  refine TC.seq ?_
  refine TC.region ?_
  refine TL.assign rfl rfl ?_
  refine TL.assign rfl rfl ?_
  refine TL.assign rfl rfl ?_
  refine TL.done ?_
  refine Thn.go ?_
  refine TC.seq ?_
  refine TC.region ?_
  refine TL.move rfl rfl ?_
  refine TL.call can18 rfl rfl (fn18 _ l w ha) (fun v12 w12 hr12 => ?_)
  obtain ⟨rfl, rfl⟩ := hr12
  refine TL.move rfl rfl ?_
  refine TL.extract rfl rfl rfl ?_
  refine TL.extract rfl rfl rfl ?_
  refine TL.extract rfl rfl rfl ?_
  refine TL.assign rfl rfl ?_
  refine TL.assign rfl rfl ?_
  refine TL.assign rfl rfl ?_
  refine TL.done ?_
  refine Thn.go ?_
  refine TC.seq ?_
  refine TC.regionBool (d := 26) (p := (Bits.rdE (Bits.read l) ≠ 0 ∨ l.length - Bits.rdK (Bits.read l) < Bits.rdN (Bits.read l))) (fun K1 hK1 => ?_) ?_
  ·
    refine TL.move rfl rfl ?_
    refine TL.neq rfl rfl rfl ?_
    refine TL.em (fun e17 => ?_) (fun e17 => ?_)
    ·
      refine TL.move rfl rfl ?_
      refine TL.guardNo (d := 18) rfl rfl rfl rfl rfl ?_
      refine TL.guardNo (d := 18) rfl rfl rfl rfl rfl ?_
      refine TL.guardNo (d := 18) rfl rfl rfl rfl rfl ?_
      refine TL.guardNo (d := 18) rfl rfl rfl rfl rfl ?_
      refine TL.guardNo (d := 18) rfl rfl rfl rfl rfl ?_
      refine TL.guardNo (d := 18) rfl rfl rfl rfl rfl ?_
      refine TL.guardNo (d := 18) rfl rfl rfl rfl rfl ?_
      refine TL.pickT rfl rfl rfl rfl ?_
      refine TL.done ?_
      refine hK1 _ ?_
      refine Le.here rfl (by first | exact decide_eq_true (by omega) | exact decide_eq_false (by omega) | exact decide_eq_decide.2 (by omega)) ?_
      repeat (first | exact Le.refl _ | refine Le.skip rfl ?_)
    ·
      refine TL.move rfl rfl ?_
      refine TL.guardYes (d := 18) rfl rfl rfl ?_
      refine TL.move rfl rfl ?_
      refine TL.guardYes (d := 18) rfl rfl rfl ?_
      refine TL.move rfl rfl ?_
      refine TL.guardYes (d := 18) rfl rfl rfl ?_
      refine TL.lenSlice Try.underlying22 rfl rfl ?_
      refine TL.guardYes (d := 18) rfl rfl rfl ?_
      refine TL.move rfl rfl ?_
      refine TL.guardYes (d := 18) rfl rfl rfl ?_
      refine TL.sub_i64 rfl rfl (by omega) (by omega) rfl ?_
      refine TL.guardYes (d := 18) rfl rfl rfl ?_
      refine TL.convI_u64 Try.underlying3 Try.underlying28 rfl rfl ?_
      refine TL.top (v' := u64 (UInt64.ofNat (l.length - Bits.rdK (Bits.read l)))) (by congr 2; omega) ?_
      refine TL.guardYes (d := 18) rfl rfl rfl ?_
      refine TL.gtr rfl rfl rfl ?_
      refine TL.pickF rfl rfl rfl rfl ?_
      refine TL.done ?_
      refine hK1 _ ?_
      refine Le.here rfl (by first | exact decide_eq_true (by omega) | exact decide_eq_false (by omega) | exact decide_eq_decide.2 (by omega)) ?_
      repeat (first | exact Le.refl _ | refine Le.skip rfl ?_)
  refine TC.condP rfl (fun h3 => ?_) (fun h3 => ?_)
  ·
    have hcut := Bits.cut_none h3
    refine TC.seq ?_
    refine TC.region ?_
    refine TL.assign rfl rfl ?_
    refine TL.assign rfl rfl ?_
    refine TL.assign rfl rfl ?_
    refine TL.done ?_
    refine Thn.go ?_
    refine TC.ret ?_
    refine Thn.ret ?_
    refine Ends.ret [2, 3, 4] rfl rfl ?_
    exact ⟨_, by unfold Bits.cutS Bits.cutE; rw [hcut]; rfl, by unfold Bits.cutR; rw [hcut]; exact World.ownsRow_nil _ _ _ _, Ch.refl _ _⟩
  ·
    have hcut := Bits.cut_some h3
    have hdl : ((l.drop (Bits.rdK (Bits.read l))).drop (Bits.rdN (Bits.read l))).length = l.length - (Bits.rdK (Bits.read l) + Bits.rdN (Bits.read l)) := by simp
    refine TC.skip ?_
    refine Thn.go ?_
    refine TC.seq ?_
    refine TC.region ?_
    refine TL.move rfl rfl ?_
    refine TL.move rfl rfl ?_
    refine TL.conv_i64 Try.underlying28 Try.underlying3 rfl (by omega) (by omega) rfl ?_
    refine TL.add_i64 rfl rfl (by omega) (by omega) rfl ?_
    refine TL.assign rfl rfl ?_
    refine TL.done ?_
    refine Thn.go ?_
    refine TC.seq ?_
    refine TC.region ?_
    refine TL.assign rfl rfl ?_
    refine TL.done ?_
    refine Thn.go ?_
    refine TC.seq ?_
    refine TC.region ?_
    refine TL.move rfl rfl ?_
    refine TL.move rfl rfl ?_
    refine TL.move rfl rfl ?_
    refine TL.sliceFrom (Bits.rdK (Bits.read l) + Bits.rdN (Bits.read l)) sl22 rfl rfl (by first | rfl | omega) (by omega) rfl ?_
    refine TL.append sl22 rfl rfl rfl (World.ownsRow_nil _ w12.heap.size _ _) (News.ofRd Try.underlying22 (Rd.bytes ((l.drop (Bits.rdK (Bits.read l))).drop (Bits.rdN (Bits.read l))) (ha.behind (i := Bits.rdK (Bits.read l) + Bits.rdN (Bits.read l)) (by omega)) hdl.symm (by simp)) (one_u8 _)) (by omega) (by omega) (by omega) (fun v35 w35 hv35 hc35 _ => ?_)
    rw [Nat.zero_add, List.nil_append] at hv35
    refine TL.assign rfl rfl ?_
    refine TL.done ?_
    refine Thn.go ?_
    refine TC.seq ?_
    refine TC.region ?_
    refine TL.move rfl rfl ?_
    refine TL.move rfl rfl ?_
    refine TL.move rfl rfl ?_
    refine TL.sliceLoHi (Bits.rdK (Bits.read l)) (Bits.rdK (Bits.read l) + Bits.rdN (Bits.read l)) sl22 rfl rfl rfl (by first | rfl | omega) (by first | rfl | omega) (by omega) (by omega) rfl ?_
    refine TL.bytesToStr Try.underlying22 Try.underlying5 Try.underlying9 rfl (Rd.bytes ((l.drop (Bits.rdK (Bits.read l))).take (Bits.rdN (Bits.read l))) ((ha.ch0 hc35).part (by omega) (by omega)) (by simp; omega) (by simp [List.take_drop])) rfl ?_
    refine TL.move rfl rfl ?_
    refine TL.assign rfl rfl ?_
    refine TL.assign rfl rfl ?_
    refine TL.assign rfl rfl ?_
    refine TL.done ?_
    refine Thn.go ?_
    refine TC.ret ?_
    refine Ends.ret [2, 3, 4] rfl rfl ?_
    exact ⟨_, by unfold Bits.cutS Bits.cutE; rw [hcut]; rfl, by unfold Bits.cutR; rw [hcut]; exact hv35, hc35⟩

