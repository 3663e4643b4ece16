/-
  Walks through the given program: each theorem fnN says what the call of function N of the translation hands back, for all arguments that its premises describe, and that nothing that was there has turned.
-/
import Derived.Test.YtmfclhhnkocgiaaF4
namespace Go.Proofs.Ytmfclhhnkocgiaa
open Go.Lane
theorem can15 : Callable Try.prog 15 := ⟨Try.f15, Try.func15, by kernel_rfl, rfl⟩
theorem can16 : Callable Try.prog 16 := ⟨Try.f16, Try.func16, by kernel_rfl, rfl⟩
theorem can19 : Callable Try.prog 19 := ⟨Try.f19, Try.func19, by kernel_rfl, rfl⟩
theorem can20 : Callable Try.prog 20 := ⟨Try.f20, Try.func20, by kernel_rfl, rfl⟩
theorem can22 : Callable Try.prog 22 := ⟨Try.f22, Try.func22, by kernel_rfl, rfl⟩
theorem can23 : Callable Try.prog 23 := ⟨Try.f23, Try.func23, by kernel_rfl, rfl⟩
theorem can24 : Callable Try.prog 24 := ⟨Try.f24, Try.func24, by kernel_rfl, rfl⟩
theorem can25 : Callable Try.prog 25 := ⟨Try.f25, Try.func25, by kernel_rfl, rfl⟩
theorem can26 : Callable Try.prog 26 := ⟨Try.f26, Try.func26, by kernel_rfl, rfl⟩

theorem fn6 (n : UInt64) (a : Value) (l : List UInt8) (w : World) (ha : Rd w a 1 l.length (l.map u8)) : Rets Try.prog 6 #[u64 n, a] w (fun v w' => v = .bool true ∧ Ch [] w w') := by
  obtain ⟨ad, c, rfl, hnil⟩ := ha.shape
  have hmm : maxLen = 9223372036854775807 := rfl
  refine Rets.of (n := 124) (vs := [_, _]) Try.func6 rfl rfl rfl ?_
  refine TC.seq ?_
  refine TC.region ?_
  refine TL.assign rfl rfl ?_
  refine TL.done ?_
  refine Thn.go ?_
  refine TC.seq ?_
  refine TC.seq ?_
  refine TC.region ?_
  refine TL.move rfl rfl ?_
  refine TL.lenSlice Try.underlying22 rfl rfl ?_
  refine TL.gtr rfl rfl rfl ?_
  refine TL.done ?_
  refine Thn.go ?_
  refine TC.condP rfl (fun h1 => ?_) (fun h1 => ?_)
  ·
    refine TC.seq ?_
    refine TC.region ?_
    refine TL.assign rfl rfl ?_
    refine TL.done ?_
    refine Thn.go ?_
    refine TC.ret ?_
    refine Thn.ret ?_
    refine Ends.ret [4] rfl rfl ?_
    exact ⟨rfl, Ch.refl _ _⟩
  ·
    refine TC.skip ?_
    refine Thn.go ?_
    refine TC.seq ?_
    refine TC.region ?_
    refine TL.move rfl rfl ?_
    refine TL.append sl22 rfl rfl rfl (World.ownsRow_nil _ w.heap.size _ _) (News.ofRd Try.underlying22 (ha) (one_u8 _)) (by omega) (by omega) (by omega) (fun v24 w24 hv24 hc24 _ => ?_)
    rw [Nat.zero_add, List.nil_append] at hv24
    have q24 : Ch [] w w24 := hc24
    have z24 := q24.size
    refine TL.assign rfl rfl ?_
    refine TL.done ?_
    refine Thn.go ?_
    refine TC.seq ?_
    refine TC.region ?_
    refine TL.move rfl rfl ?_
    refine TL.call can14 rfl rfl (fn14 n w24) (fun v26 w26 hr26 => ?_)
    obtain ⟨b26, rfl, hb26, hh26, hc26⟩ := hr26
    have q26 := q24.trans0 hc26
    have hblt := hh26.lt
    refine TL.move rfl rfl ?_
    refine TL.call can13 rfl rfl (fn13 n w26) (fun v28 w28 hr28 => ?_)
    obtain ⟨hv28, hc28⟩ := hr28
    have q28 := q26.trans0 hc28
    refine TL.assign rfl rfl ?_
    refine TL.assign rfl rfl ?_
    refine TL.done ?_
    refine Thn.go ?_
    refine TC.seq ?_
    refine TC.region ?_
    refine TL.move rfl rfl ?_
    refine TL.call can15 rfl rfl (fn15 v24 l w28 (Rd.ofOwn ((hv24.ch0 hc26).ch0 hc28))) (fun v31 w31 hr31 => ?_)
    obtain ⟨rfl, hc31⟩ := hr31
    have q31 := q28.trans0 hc31
    refine TL.move rfl rfl ?_
    refine TL.extract rfl rfl rfl ?_
    refine TL.extract rfl rfl rfl ?_
    refine TL.assign rfl rfl ?_
    refine TL.assign rfl rfl ?_
    refine TL.done ?_
    refine Thn.go ?_
    refine TC.seq ?_
    refine TC.region ?_
    refine TL.move rfl rfl ?_
    refine TL.call can16 rfl rfl (fn16 _ l w31 (ha.ch0 q31)) (fun v36 w36 hr36 => ?_)
    obtain ⟨rfl, rfl⟩ := hr36
    refine TL.move rfl rfl ?_
    refine TL.extract rfl rfl rfl ?_
    refine TL.extract rfl rfl rfl ?_
    refine TL.assign rfl rfl ?_
    refine TL.assign rfl rfl ?_
    refine TL.done ?_
    refine Thn.go ?_
    refine TC.seq ?_
    refine TC.region ?_
    refine TL.move rfl rfl ?_
    refine TL.call can17 rfl rfl (fn17 v24 l w36 (Rd.ofOwn (((hv24.ch0 hc26).ch0 hc28).ch0 hc31))) (fun v41 w41 hr41 => ?_)
    obtain ⟨rfl, rfl⟩ := hr41
    refine TL.move rfl rfl ?_
    refine TL.extract rfl rfl rfl ?_
    refine TL.extract rfl rfl rfl ?_
    refine TL.extract rfl rfl rfl ?_
    refine TL.assign rfl rfl ?_
    refine TL.assign rfl rfl ?_
    refine TL.assign rfl rfl ?_
    refine TL.done ?_
    refine Thn.go ?_
    refine TC.seq ?_
    refine TC.region ?_
    refine TL.move rfl rfl ?_
    refine TL.call can18 rfl rfl (fn18 _ l w41 (ha.ch0 q31)) (fun v47 w47 hr47 => ?_)
    obtain ⟨rfl, rfl⟩ := hr47
    refine TL.move rfl rfl ?_
    refine TL.extract rfl rfl rfl ?_
    refine TL.extract rfl rfl rfl ?_
    refine TL.extract rfl rfl rfl ?_
    refine TL.assign rfl rfl ?_
    refine TL.assign rfl rfl ?_
    refine TL.assign rfl rfl ?_
    refine TL.done ?_
    refine Thn.go ?_
    refine TC.seq ?_
    refine TC.seq ?_
    refine TC.region ?_
    refine TL.move rfl rfl ?_
    refine TL.move rfl rfl ?_
    refine TL.call can20 rfl rfl (fn20 n w47) (fun v53 w53 hr53 => ?_)
    obtain ⟨hv53, hc53⟩ := hr53
    refine TL.call can19 rfl rfl (fn19 _ _ (Bits.put n) (Bits.put n) w53 (Rd.ofHas ((hh26.ch0 hc28).ch0 (hc31.trans0 hc53)) (by decide) (by simp [Bits.put_len]) rfl) (Rd.ofOwn hv53)) (fun v54 w54 hr54 => ?_)
    obtain ⟨rfl, rfl⟩ := hr54
    refine TL.yes (rfl) ?_
    refine TL.not rfl rfl ?_
    refine TL.move rfl rfl ?_
    refine TL.guardYes (d := 56) rfl rfl rfl ?_
    refine TL.move rfl rfl ?_
    refine TL.guardYes (d := 56) rfl rfl rfl ?_
    refine TL.move rfl rfl ?_
    refine TL.guardYes (d := 56) rfl rfl rfl ?_
    refine TL.call can21 rfl rfl (fn21 n w54) (fun v59 w59 hr59 => ?_)
    obtain ⟨hv59, hc59⟩ := hr59
    have r59 : Ch [] w28 w59 := (hc31.trans0 hc53).trans0 hc59
    refine TL.guardYes (d := 56) rfl rfl rfl ?_
    refine TL.call can19 rfl rfl (fn19 _ _ (Bits.small n.toNat) (Bits.small n.toNat) w59 (Rd.ofOwn (hv28.ch0 r59)) (Rd.ofOwn hv59)) (fun v60 w60 hr60 => ?_)
    obtain ⟨rfl, rfl⟩ := hr60
    refine TL.yes (rfl) ?_
    refine TL.guardYes (d := 56) rfl rfl rfl ?_
    refine TL.not rfl rfl ?_
    refine TL.pickF rfl rfl rfl rfl ?_
    refine TL.move rfl rfl ?_
    refine TL.guardYes (d := 63) rfl rfl rfl ?_
    refine TL.move rfl rfl ?_
    refine TL.guardYes (d := 63) rfl rfl rfl ?_
    refine TL.move rfl rfl ?_
    refine TL.guardYes (d := 63) rfl rfl rfl ?_
    refine TL.neq rfl rfl rfl ?_
    refine TL.no (fun h => h rfl) ?_
    refine TL.pickF rfl rfl rfl rfl ?_
    refine TL.move rfl rfl ?_
    refine TL.guardYes (d := 68) rfl rfl rfl ?_
    refine TL.move rfl rfl ?_
    refine TL.guardYes (d := 68) rfl rfl rfl ?_
    refine TL.move rfl rfl ?_
    refine TL.guardYes (d := 68) rfl rfl rfl ?_
    refine TL.neq rfl rfl rfl ?_
    refine TL.no (fun h => h rfl) ?_
    refine TL.pickF rfl rfl rfl rfl ?_
    refine TL.move rfl rfl ?_
    refine TL.guardYes (d := 73) rfl rfl rfl ?_
    refine TL.move rfl rfl ?_
    refine TL.guardYes (d := 73) rfl rfl rfl ?_
    refine TL.move rfl rfl ?_
    refine TL.guardYes (d := 73) rfl rfl rfl ?_
    refine TL.neq rfl rfl rfl ?_
    refine TL.no (fun h => h rfl) ?_
    refine TL.pickF rfl rfl rfl rfl ?_
    refine TL.move rfl rfl ?_
    refine TL.guardYes (d := 78) rfl rfl rfl ?_
    refine TL.move rfl rfl ?_
    refine TL.guardYes (d := 78) rfl rfl rfl ?_
    refine TL.move rfl rfl ?_
    refine TL.guardYes (d := 78) rfl rfl rfl ?_
    refine TL.neq rfl rfl rfl ?_
    refine TL.no (fun h => h rfl) ?_
    refine TL.pickF rfl rfl rfl rfl ?_
    refine TL.move rfl rfl ?_
    refine TL.guardYes (d := 83) rfl rfl rfl ?_
    refine TL.move rfl rfl ?_
    refine TL.guardYes (d := 83) rfl rfl rfl ?_
    refine TL.move rfl rfl ?_
    refine TL.guardYes (d := 83) rfl rfl rfl ?_
    refine TL.neq rfl rfl rfl ?_
    refine TL.no (fun h => h rfl) ?_
    refine TL.pickF rfl rfl rfl rfl ?_
    refine TL.move rfl rfl ?_
    refine TL.guardYes (d := 88) rfl rfl rfl ?_
    refine TL.move rfl rfl ?_
    refine TL.guardYes (d := 88) rfl rfl rfl ?_
    refine TL.move rfl rfl ?_
    refine TL.guardYes (d := 88) rfl rfl rfl ?_
    refine TL.call can19 rfl rfl (fn19 _ _ l l w60 (Rd.ofOwn (((hv24.ch0 hc26).ch0 hc28).ch0 r59)) (ha.ch0 (q28.trans0 r59))) (fun v91 w91 hr91 => ?_)
    obtain ⟨rfl, rfl⟩ := hr91
    refine TL.yes (rfl) ?_
    refine TL.guardYes (d := 88) rfl rfl rfl ?_
    refine TL.not rfl rfl ?_
    refine TL.pickF rfl rfl rfl rfl ?_
    refine TL.done ?_
    refine Thn.go ?_
    refine TC.condF rfl rfl ?_
    refine TC.skip ?_
    refine Thn.go ?_
    refine TC.seq ?_
    refine TC.seq ?_
    refine TC.region ?_
    refine TL.assign rfl rfl ?_
    refine TL.done ?_
    refine Thn.go ?_
    refine TC.block ?_
    refine TC.loop1 (fun (k : Nat) => [(0, u64 n), (6, .slice (some ⟨b26, 0, none⟩) 8 8), (7, v28), (18, .int .i64 (k : Int))]) (fun k w' => k ≤ 8 ∧ ∃ cur, cur.size = 8 ∧ Has w' b26 cur 53 (0, 0) ∧ Ch [b26] w91 w') (fun k => 8 - k) 0 (by repeat (first | exact trivial | refine ⟨rfl, ?_⟩)) (⟨by omega, _, by simp [Bits.put_len], (hh26.ch0 hc28).ch0 r59, Ch.refl _ _⟩) (fun k w' hH => ?_)
    obtain ⟨hk, cur, hcs, hh, hch⟩ := hH
    refine TC.seq ?_
    refine TC.seq ?_
    refine TC.region ?_
    refine TL.move rfl rfl ?_
    refine TL.move rfl rfl ?_
    refine TL.lenSlice Try.underlying22 rfl rfl ?_
    refine TL.lss rfl rfl rfl ?_
    refine TL.done ?_
    refine Thn.go ?_
    refine TC.condP rfl (fun h3 => ?_) (fun h3 => ?_)
    ·
      refine TC.skip ?_
      refine Thn.go ?_
      refine TC.seq ?_
      refine TC.block ?_
      refine TC.region ?_
      refine TL.move rfl rfl ?_
      refine TL.move rfl rfl ?_
      refine TL.indexAddr (k) sl22 rfl rfl (by first | rfl | omega) (by omega) rfl ?_
      refine TL.store sz5 rfl rfl rfl (hh) (by first | omega | simp [Value.cells]) (by simp [Value.cells, Value.oneCell']) (.inl rfl) (fun ws1 hbs1 hcs1 hzs1 => ?_)
      replace hbs1 := hbs1.setOne rfl (by omega)
      refine TL.done ?_
      refine Blk.go ?_
      refine Thn.go ?_
      refine TC.region ?_
      refine TL.move rfl rfl ?_
      refine TL.add_i64 rfl rfl (by omega) (by omega) rfl ?_
      refine TL.assign rfl rfl ?_
      refine TL.done ?_
      refine Lp.go (k + 1) (by repeat (first | exact trivial | refine ⟨rfl, ?_⟩)) ?_ (by first | omega | (dsimp only; omega))
      exact ⟨by omega, _, by simpa using hcs, hbs1, hch.trans hcs1 (fun _ h _ => h) (fun _ h _ => h)⟩
    ·
      have qw : Ch [] w w' := (q28.trans0 r59).thenS hch (by intro x hx; simp at hx; omega)
      obtain ⟨g, c28, rfl⟩ := hv28.form (Bits.small_pos _)
      have hvs := (hv28.ch0 r59).ch hch (by intro x hx; have := hv28.ge x hx; simp; omega)
      obtain ⟨cur0, hh0, hs0, hmc0, _, _, _⟩ := hvs.has
      have hg := hv28.ge g rfl
      have hwl := hch.size
      have hwz := q26.size
      refine TC.exit ?_
      refine Thn.exit ?_
      refine Lp.exit ?_
      refine Blk.hit ?_
      refine Thn.go ?_
      refine TC.seq ?_
      refine TC.seq ?_
      refine TC.region ?_
      refine TL.assign rfl rfl ?_
      refine TL.done ?_
      refine Thn.go ?_
      refine TC.block ?_
      refine TC.loop1 (fun (j : Nat) => [(0, u64 n), (7, .slice (some ⟨g, 0, none⟩) (Bits.small n.toNat).length c28), (19, .int .i64 (j : Int))]) (fun j w2 => j ≤ (Bits.small n.toNat).length ∧ ∃ cur, cur.size = cur0.size ∧ Has w2 g cur 5 (0, 0) ∧ Ch [] w w2) (fun j => (Bits.small n.toNat).length - j) 0 (by repeat (first | exact trivial | refine ⟨rfl, ?_⟩)) (⟨by omega, cur0, rfl, hh0, qw⟩) (fun j w2 hH => ?_)
      obtain ⟨hj, cur2, hks2, hh2, hch2⟩ := hH
      have hten := Bits.small_len64 n
      refine TC.seq ?_
      refine TC.seq ?_
      refine TC.region ?_
      refine TL.move rfl rfl ?_
      refine TL.move rfl rfl ?_
      refine TL.lenSlice Try.underlying22 rfl rfl ?_
      refine TL.lss rfl rfl rfl ?_
      refine TL.done ?_
      refine Thn.go ?_
      refine TC.condP rfl (fun h4 => ?_) (fun h4 => ?_)
      ·
        refine TC.skip ?_
        refine Thn.go ?_
        refine TC.seq ?_
        refine TC.block ?_
        refine TC.region ?_
        refine TL.move rfl rfl ?_
        refine TL.move rfl rfl ?_
        refine TL.indexAddr (j) sl22 rfl rfl (by first | rfl | omega) (by omega) rfl ?_
        refine TL.store sz5 rfl rfl rfl (hh2) (by first | omega | simp [Value.cells]) (by simp [Value.cells, Value.oneCell']) (.inl rfl) (fun ws2 hbs2 hcs2 hzs2 => ?_)
        replace hbs2 := hbs2.setOne rfl (by omega)
        refine TL.done ?_
        refine Blk.go ?_
        refine Thn.go ?_
        refine TC.region ?_
        refine TL.move rfl rfl ?_
        refine TL.add_i64 rfl rfl (by omega) (by omega) rfl ?_
        refine TL.assign rfl rfl ?_
        refine TL.done ?_
        refine Lp.go (j + 1) (by repeat (first | exact trivial | refine ⟨rfl, ?_⟩)) ?_ (by first | omega | (dsimp only; omega))
        exact ⟨by omega, _, by simpa using hks2, hbs2, hch2.then1 hcs2 (by omega)⟩
      ·
        refine TC.exit ?_
        refine Thn.exit ?_
        refine Lp.exit ?_
        refine Blk.hit ?_
        refine Thn.go ?_
        refine TC.seq ?_
        refine TC.region ?_
        refine TL.move rfl rfl ?_
        refine TL.call can14 rfl rfl (fn14 n w2) (fun v113 w113 hr113 => ?_)
        obtain ⟨b3, rfl, hb3, hh3, hc3⟩ := hr113
        refine TL.move rfl rfl ?_
        refine TL.call can20 rfl rfl (fn20 n w113) (fun v115 w115 hr115 => ?_)
        obtain ⟨hv115, hc115⟩ := hr115
        refine TL.call can19 rfl rfl (fn19 _ _ (Bits.put n) (Bits.put n) w115 (Rd.ofHas (hh3.ch0 hc115) (by decide) (by simp [Bits.put_len]) rfl) (Rd.ofOwn hv115)) (fun v116 w116 hr116 => ?_)
        obtain ⟨rfl, rfl⟩ := hr116
        refine TL.yes (rfl) ?_
        refine TL.move rfl rfl ?_
        refine TL.guardYes (d := 117) rfl rfl rfl ?_
        refine TL.move rfl rfl ?_
        refine TL.guardYes (d := 117) rfl rfl rfl ?_
        refine TL.call can13 rfl rfl (fn13 n w116) (fun v119 w119 hr119 => ?_)
        obtain ⟨hv119, hc119⟩ := hr119
        refine TL.guardYes (d := 117) rfl rfl rfl ?_
        refine TL.move rfl rfl ?_
        refine TL.guardYes (d := 117) rfl rfl rfl ?_
        refine TL.call can21 rfl rfl (fn21 n w119) (fun v121 w121 hr121 => ?_)
        obtain ⟨hv121, hc121⟩ := hr121
        refine TL.guardYes (d := 117) rfl rfl rfl ?_
        refine TL.call can19 rfl rfl (fn19 _ _ (Bits.small n.toNat) (Bits.small n.toNat) w121 (Rd.ofOwn (hv119.ch0 hc121)) (Rd.ofOwn hv121)) (fun v122 w122 hr122 => ?_)
        obtain ⟨rfl, rfl⟩ := hr122
        refine TL.yes (rfl) ?_
        refine TL.pickT rfl rfl rfl rfl ?_
        refine TL.assign rfl rfl ?_
        refine TL.done ?_
        refine Thn.go ?_
        refine TC.ret ?_
        refine Ends.ret [4] rfl rfl ?_
        exact ⟨rfl, (((hch2.trans0 hc3).trans0 hc115).trans0 hc119).trans0 hc121⟩

theorem fn7 (s : List UInt8) (a : Value) (l : List UInt8) (w : World) (ha : Rd w a 1 l.length (l.map u8)) : Rets Try.prog 7 #[str s, a] w (fun v w' => v = .bool true ∧ Ch [] w w') := by
  obtain ⟨ad, c, rfl, hnil⟩ := ha.shape
  have hmm : maxLen = 9223372036854775807 := rfl
  refine Rets.of (n := 81) (vs := [_, _]) Try.func7 rfl rfl rfl ?_
  refine TC.seq ?_
  refine TC.region ?_
  refine TL.assign rfl rfl ?_
  refine TL.done ?_
  refine Thn.go ?_
  refine TC.seq ?_
  refine TC.regionBool (d := 20) (p := (100000 < s.length ∨ 100000 < l.length)) (fun K1 hK1 => ?_) ?_
  ·
    refine TL.move rfl rfl ?_
    refine TL.lenStr Try.underlying9 rfl rfl ?_
    refine TL.gtr rfl rfl rfl ?_
    refine TL.em (fun e15 => ?_) (fun e15 => ?_)
    ·
      refine TL.move rfl rfl ?_
      refine TL.guardNo (d := 16) rfl rfl rfl rfl rfl ?_
      refine TL.guardNo (d := 16) rfl rfl rfl rfl rfl ?_
      refine TL.guardNo (d := 16) rfl rfl rfl rfl rfl ?_
      refine TL.pickT rfl rfl rfl rfl ?_
      refine TL.done ?_
      refine hK1 _ ?_
      refine Le.here rfl (by first | exact decide_eq_true (by omega) | exact decide_eq_false (by omega) | exact decide_eq_decide.2 (by omega)) ?_
      repeat (first | exact Le.refl _ | refine Le.skip rfl ?_)
    ·
      refine TL.move rfl rfl ?_
      refine TL.guardYes (d := 16) rfl rfl rfl ?_
      refine TL.move rfl rfl ?_
      refine TL.guardYes (d := 16) rfl rfl rfl ?_
      refine TL.lenSlice Try.underlying22 rfl rfl ?_
      refine TL.guardYes (d := 16) rfl rfl rfl ?_
      refine TL.gtr rfl rfl rfl ?_
      refine TL.pickF rfl rfl rfl rfl ?_
      refine TL.done ?_
      refine hK1 _ ?_
      refine Le.here rfl (by first | exact decide_eq_true (by omega) | exact decide_eq_false (by omega) | exact decide_eq_decide.2 (by omega)) ?_
      repeat (first | exact Le.refl _ | refine Le.skip rfl ?_)
  refine TC.condP rfl (fun h3 => ?_) (fun h3 => ?_)
  ·
    refine TC.seq ?_
    refine TC.region ?_
    refine TL.assign rfl rfl ?_
    refine TL.done ?_
    refine Thn.go ?_
    refine TC.ret ?_
    refine Thn.ret ?_
    refine Ends.ret [4] rfl rfl ?_
    exact ⟨rfl, Ch.refl _ _⟩
  ·
    refine TC.skip ?_
    refine Thn.go ?_
    refine TC.seq ?_
    refine TC.region ?_
    refine TL.move rfl rfl ?_
    refine TL.append sl22 rfl rfl rfl (World.ownsRow_nil _ w.heap.size _ _) (News.ofRd Try.underlying22 (ha) (one_u8 _)) (by omega) (by omega) (by omega) (fun v22 w22 hv22 hc22 _ => ?_)
    rw [Nat.zero_add, List.nil_append] at hv22
    have q22 : Ch [] w w22 := hc22
    refine TL.assign rfl rfl ?_
    refine TL.done ?_
    refine Thn.go ?_
    refine TC.seq ?_
    refine TC.region ?_
    refine TL.move rfl rfl ?_
    refine TL.call can22 rfl rfl (fn22 v22 l (by omega) w22 (Rd.ofOwn hv22)) (fun v25 w25 hr25 => ?_)
    obtain ⟨r25, rfl, hv25, hc25⟩ := hr25
    obtain ⟨a25, c25, rfl, _⟩ := hv25.shape
    have q25 := q22.trans0 hc25
    refine TL.move rfl rfl ?_
    refine TL.extract rfl rfl rfl ?_
    refine TL.extract rfl rfl rfl ?_
    refine TL.extract rfl rfl rfl ?_
    refine TL.assign rfl rfl ?_
    refine TL.assign rfl rfl ?_
    refine TL.assign rfl rfl ?_
    refine TL.done ?_
    refine Thn.go ?_
    refine TC.seq ?_
    refine TC.region ?_
    refine TL.move rfl rfl ?_
    refine TL.call can23 rfl rfl (fn23 _ l (by omega) w25 (ha.ch0 q25)) (fun v31 w31 hr31 => ?_)
    obtain ⟨r31, rfl, hv31, hc31⟩ := hr31
    refine TL.move rfl rfl ?_
    refine TL.extract rfl rfl rfl ?_
    refine TL.extract rfl rfl rfl ?_
    refine TL.extract rfl rfl rfl ?_
    refine TL.assign rfl rfl ?_
    refine TL.assign rfl rfl ?_
    refine TL.assign rfl rfl ?_
    refine TL.done ?_
    refine Thn.go ?_
    refine TC.seq ?_
    refine TC.seq ?_
    refine TC.region ?_
    refine TL.move rfl rfl ?_
    refine TL.call can24 rfl rfl (fn24 s (by omega) w31) (fun v36 w36 hr36 => ?_)
    obtain ⟨hv36, hc36⟩ := hr36
    refine TL.move rfl rfl ?_
    refine TL.call can25 rfl rfl (fn25 s (by omega) w36) (fun v38 w38 hr38 => ?_)
    obtain ⟨hv38, hc38⟩ := hr38
    have r38 := (hc31.trans0 hc36).trans0 hc38
    refine TL.call can19 rfl rfl (fn19 _ _ (Bits.text s) (Bits.text s) w38 (Rd.ofOwn (hv36.ch0 hc38)) (Rd.ofOwn hv38)) (fun v39 w39 hr39 => ?_)
    obtain ⟨rfl, rfl⟩ := hr39
    refine TL.yes (rfl) ?_
    refine TL.not rfl rfl ?_
    refine TL.move rfl rfl ?_
    refine TL.guardYes (d := 41) rfl rfl rfl ?_
    refine TL.move rfl rfl ?_
    refine TL.guardYes (d := 41) rfl rfl rfl ?_
    refine TL.move rfl rfl ?_
    refine TL.guardYes (d := 41) rfl rfl rfl ?_
    refine TL.neqStr rfl rfl rfl ?_
    refine TL.no (fun h => h rfl) ?_
    refine TL.pickF rfl rfl rfl rfl ?_
    refine TL.move rfl rfl ?_
    refine TL.guardYes (d := 46) rfl rfl rfl ?_
    refine TL.move rfl rfl ?_
    refine TL.guardYes (d := 46) rfl rfl rfl ?_
    refine TL.move rfl rfl ?_
    refine TL.guardYes (d := 46) rfl rfl rfl ?_
    refine TL.call can19 rfl rfl (fn19 _ _ (Bits.cutR l) (Bits.cutR l) w39 (Rd.ofOwn (hv25.ch0 r38)) (Rd.ofOwn (hv31.ch0 (hc36.trans0 hc38)))) (fun v49 w49 hr49 => ?_)
    obtain ⟨rfl, rfl⟩ := hr49
    refine TL.yes (rfl) ?_
    refine TL.guardYes (d := 46) rfl rfl rfl ?_
    refine TL.not rfl rfl ?_
    refine TL.pickF rfl rfl rfl rfl ?_
    refine TL.move rfl rfl ?_
    refine TL.guardYes (d := 52) rfl rfl rfl ?_
    refine TL.move rfl rfl ?_
    refine TL.guardYes (d := 52) rfl rfl rfl ?_
    refine TL.move rfl rfl ?_
    refine TL.guardYes (d := 52) rfl rfl rfl ?_
    refine TL.neq rfl rfl rfl ?_
    refine TL.no (fun h => h rfl) ?_
    refine TL.pickF rfl rfl rfl rfl ?_
    refine TL.move rfl rfl ?_
    refine TL.guardYes (d := 57) rfl rfl rfl ?_
    refine TL.move rfl rfl ?_
    refine TL.guardYes (d := 57) rfl rfl rfl ?_
    refine TL.call can12 rfl rfl (fn12 w49 v22 l (Rd.ofOwn (hv22.ch0 (hc25.trans0 r38)))) (fun v59 w59 hr59 => ?_)
    obtain ⟨rfl, hc59⟩ := hr59
    refine TL.guardYes (d := 57) rfl rfl rfl ?_
    refine TL.move rfl rfl ?_
    refine TL.guardYes (d := 57) rfl rfl rfl ?_
    refine TL.call can26 rfl rfl (fn26 _ l w59 (ha.ch0 ((q25.trans0 r38).trans0 hc59))) (fun v61 w61 hr61 => ?_)
    obtain ⟨rfl, rfl⟩ := hr61
    refine TL.guardYes (d := 57) rfl rfl rfl ?_
    refine TL.neq rfl rfl rfl ?_
    refine TL.no (fun h => h rfl) ?_
    refine TL.pickF rfl rfl rfl rfl ?_
    refine TL.done ?_
    refine Thn.go ?_
    refine TC.condF rfl rfl ?_
    refine TC.skip ?_
    refine Thn.go ?_
    refine TC.seq ?_
    refine TC.seq ?_
    refine TC.region ?_
    refine TL.assign rfl rfl ?_
    refine TL.done ?_
    refine Thn.go ?_
    refine TC.block ?_
    refine TC.loop1 (fun (k : Nat) => [(1, .slice ad l.length c), (5, v22), (7, .slice a25 (Bits.cutR l).length c25), (12, .int .i64 (k : Int))]) (fun k w' => k ≤ (Bits.cutR l).length ∧ ∃ m : List UInt8, m.length = (Bits.cutR l).length ∧ Own w' w22.heap.size 5 1 (.slice a25 (Bits.cutR l).length c25) (Bits.cutR l).length (m.map u8) ∧ Ch [] w22 w') (fun k => (Bits.cutR l).length - k) 0 (by repeat (first | exact trivial | refine ⟨rfl, ?_⟩)) (⟨by omega, Bits.cutR l, rfl, (hv25.ch0 r38).ch0 hc59, (hc25.trans0 r38).trans0 hc59⟩) (fun k w' hH => ?_)
    obtain ⟨hk, m, hml, hown, hch⟩ := hH
    have hrl := (Rd.ofOwn hv25).nlt
    refine TC.seq ?_
    refine TC.seq ?_
    refine TC.region ?_
    refine TL.move rfl rfl ?_
    refine TL.move rfl rfl ?_
    refine TL.lenSlice Try.underlying22 rfl rfl ?_
    refine TL.lss rfl rfl rfl ?_
    refine TL.done ?_
    refine Thn.go ?_
    refine TC.condP rfl (fun h5 => ?_) (fun h5 => ?_)
    ·
      have hkl : k < m.length := by omega
      obtain ⟨g, c', e⟩ := hown.form (by omega)
      cases e
      obtain ⟨cur, hh, hsz, hmc, hcm, hbg, htk⟩ := hown.has
      obtain ⟨g', off', e, hcell⟩ := Rd.byteAt (l := m) (Rd.ofOwn hown) (i := k) (by omega)
      cases e
      refine TC.skip ?_
      refine Thn.go ?_
      refine TC.seq ?_
      refine TC.block ?_
      refine TC.region ?_
      refine TL.move rfl rfl ?_
      refine TL.move rfl rfl ?_
      refine TL.move rfl rfl ?_
      refine TL.move rfl rfl ?_
      refine TL.indexAddr (k) sl22 rfl rfl (by first | rfl | omega) (by omega) rfl ?_
      refine TL.load pl5 rfl (hcell) rfl ?_
      refine TL.add_u8 (b := 1) rfl rfl rfl ?_
      refine TL.indexAddr (k) sl22 rfl rfl (by first | rfl | omega) (by omega) rfl ?_
      refine TL.store sz5 rfl rfl rfl (hh) (by first | omega | simp [Value.cells]) (by simp [Value.cells, Value.oneCell']) (.inl rfl) (fun ws1 hbs1 hcs1 hzs1 => ?_)
      replace hbs1 := hbs1.setOne rfl (by omega)
      rw [Nat.zero_add, Nat.mul_one] at hbs1
      refine TL.done ?_
      refine Blk.go ?_
      refine Thn.go ?_
      refine TC.region ?_
      refine TL.move rfl rfl ?_
      refine TL.add_i64 rfl rfl (by omega) (by omega) rfl ?_
      refine TL.assign rfl rfl ?_
      refine TL.done ?_
      refine Lp.go (k + 1) (by repeat (first | exact trivial | refine ⟨rfl, ?_⟩)) ?_ (by first | omega | (dsimp only; omega))
      refine ⟨by omega, m.set k (m.getD k 0 + 1), by simpa using hml, ?_, hch.then1 hcs1 hbg⟩
      rw [List.map_set]
      exact hown.store1 hh hbs1
    ·
      refine TC.exit ?_
      refine Thn.exit ?_
      refine Lp.exit ?_
      refine Blk.hit ?_
      refine Thn.go ?_
      refine TC.seq ?_
      refine TC.region ?_
      refine TL.move rfl rfl ?_
      refine TL.move rfl rfl ?_
      refine TL.call can19 rfl rfl (fn19 _ _ l l w' (Rd.ofOwn (hv22.ch0 hch)) (ha.ch0 (q22.trans0 hch))) (fun v80 w80 hr80 => ?_)
      obtain ⟨rfl, rfl⟩ := hr80
      refine TL.yes (rfl) ?_
      refine TL.assign rfl rfl ?_
      refine TL.done ?_
      refine Thn.go ?_
      refine TC.ret ?_
      refine Ends.ret [4] rfl rfl ?_
      exact ⟨rfl, q22.trans0 hch⟩

