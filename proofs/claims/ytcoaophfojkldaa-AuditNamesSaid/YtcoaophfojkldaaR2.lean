/-
  Walks through the given program: each theorem fnN says what the call of function N of the translation hands back, for all arguments that its premises describe, and that nothing that was there has turned.
-/
import Derived.Test.YtcoaophfojkldaaR1
namespace Go.Proofs.Ytcoaophfojkldaa
open Go.Lane
theorem ag32 : AggT Try.prog 32 6 := ⟨⟨_, Try.underlying32, rfl⟩, by kernel_rfl⟩
theorem can22 : Callable Try.prog 22 := ⟨Try.f22, Try.func22, by kernel_rfl, rfl⟩
theorem can27 : Callable Try.prog 27 := ⟨Try.f27, Try.func27, by kernel_rfl, rfl⟩
theorem can30 : Callable Try.prog 30 := ⟨Try.f30, Try.func30, by kernel_rfl, rfl⟩
theorem can31 : Callable Try.prog 31 := ⟨Try.f31, Try.func31, by kernel_rfl, rfl⟩
theorem can33 : Callable Try.prog 33 := ⟨Try.f33, Try.func33, by kernel_rfl, rfl⟩
theorem can34 : Callable Try.prog 34 := ⟨Try.f34, Try.func34, by kernel_rfl, rfl⟩
theorem can36 : Callable Try.prog 36 := ⟨Try.f36, Try.func36, by kernel_rfl, rfl⟩
theorem can41 : Callable Try.prog 41 := ⟨Try.f41, Try.func41, by kernel_rfl, rfl⟩
theorem can42 : Callable Try.prog 42 := ⟨Try.f42, Try.func42, by kernel_rfl, rfl⟩
theorem can43 : Callable Try.prog 43 := ⟨Try.f43, Try.func43, by kernel_rfl, rfl⟩
theorem can55 : Callable Try.prog 55 := ⟨Try.f55, Try.func55, by kernel_rfl, rfl⟩
theorem gd32 : Try.prog.eqGuardType Try.prog.depth 32 = false := by kernel_rfl
theorem sl22 : SliceT Try.prog 22 32 6 72 (.agg #[.int .i64 0, .int .i64 0, .string ⟨#[]⟩, .string ⟨#[]⟩, .int .i64 0, .string ⟨#[]⟩]) := SliceT.mk' Try.underlying22 (by kernel_rfl) rfl rfl
theorem sz32 : (Try.prog.info? 32).map (·.size) = some 6 := by kernel_rfl
theorem sz9 : (Try.prog.info? 9).map (·.size) = some 1 := by kernel_rfl
theorem ze32 : ZeroT Try.prog 32 (.agg #[.int .i64 0, .int .i64 0, .string ⟨#[]⟩, .string ⟨#[]⟩, .int .i64 0, .string ⟨#[]⟩]) := by unfold ZeroT; kernel_rfl
/-- A record with its digest. -/
def sealedR (r : Audit.Record) (b : List UInt8) : Audit.Record := { r with hash := Audit.hashed r b }
theorem sealed_iff (r : Audit.Record) (b : List UInt8) : sealedR r b = r ↔ r.hash = Audit.hashed r b := by
  obtain ⟨a1, a2, a3, a4, a5, a6⟩ := r
  simp only [sealedR, Audit.Record.mk.injEq, true_and]
  exact eq_comm
def atB (l : List Audit.Record) (i : Nat) : Int := if i = 0 then 0 else (Audit.rec l (i - 1)).at_
theorem fits_iff {l : List Audit.Record} {i : Nat} (h : ∀ r ∈ l, Audit.may r) (hi : i < l.length) : Audit.fits l i ↔ (Audit.rec l i).seq = (i : Int) ∧ atB l i ≤ (Audit.rec l i).at_ ∧ (Audit.rec l i).hash = Audit.hashed (Audit.rec l i) (Audit.before l i) := by
  have := (h _ (Audit.rec_mem hi)).2.1
  unfold Audit.fits atB
  constructor
  · rintro ⟨h1, h2, h3⟩
    refine ⟨h1, ?_, h3⟩
    split
    · exact this
    · exact h2.resolve_left (by assumption)
  · rintro ⟨h1, h2, h3⟩
    refine ⟨h1, ?_, h3⟩
    split at h2
    · left; assumption
    · right; exact h2

theorem fn27 (r : Audit.Record) (b : List UInt8) (h1 : r.user.length ≤ 100000) (h2 : r.deed.length ≤ 100000) (h3 : b.length ≤ 100000) (w : World) : Rets Try.prog 27 #[.agg (cl r).toArray, str b] w (fun v w' => v = .agg (cl (sealedR r b)).toArray ∧ Ch [] w w') := by
  have hbl := Audit.bytesR_len r b h1 h2 h3
  have hsl := Sha.sum_len (Audit.bytesR r b)
  refine Rets.of (n := 14) (vs := [_, _]) Try.func27 rfl rfl rfl ?_
  refine TC.seq ?_
  refine TC.region ?_
  refine TL.box rfl rfl (fun w2 hb2 hc2 hz2 => ?_)
  replace hb2 : Has w2 w.heap.size (cl r).toArray 32 (0, 0) := hb2
  refine TL.alloc ze32 rfl (fun w4 hb4 hc4 hz4 => ?_)
  refine TL.done ?_
  refine Thn.go ?_
  refine TC.seq ?_
  refine TC.region ?_
  refine TL.loadAgg (cl r) ag32 rfl rfl (fun j _ => by rw [(hb2.ch0 hc4).cell, Nat.zero_add, List.getElem?_toArray]) rfl ?_
  refine TL.move rfl rfl ?_
  refine TL.call can33 rfl rfl (fn33 r b h1 h2 h3 w4) (fun v8 w8 hr8 => ?_)
  obtain ⟨hv8, hc8⟩ := hr8
  refine TL.call can22 rfl rfl (fn22 _ (Audit.bytesR r b) (by omega) w8 (Rd.ofOwn hv8)) (fun v9 w9 hr9 => ?_)
  obtain ⟨rfl, hc9⟩ := hr9
  refine TL.alloc ze48 rfl (fun w5 hb5 hc5 hz5 => ?_)
  refine TL.store sz48 rfl rfl (by simpa [Value.cells] using hsl) hb5 (by simp [Value.cells]) (by simpa [Value.cells] using one_u8 (Sha.sum (Audit.bytesR r b))) (.inl rfl) (fun ws1 hbs1 hcs1 hzs1 => ?_)
  replace hbs1 : Has ws1 w9.heap.size ((Sha.sum (Audit.bytesR r b)).map u8).toArray 48 (0, 0) := hbs1.setAll (by simp [Value.cells, hsl])
  have z8 := hc8.size; have z9 := hc9.size
  have q1 : Ch [] w4 ws1 := ((hc8.trans0 hc9).trans0 hc5).then1 hcs1 (by omega)
  refine TL.done ?_
  refine Thn.go ?_
  refine TC.seq ?_
  refine TC.region ?_
  refine TL.sliceArr ar48 rfl rfl ?_
  refine TL.call can23 rfl rfl (fn23 _ (Sha.sum (Audit.bytesR r b)) ws1 (Rd.bytes _ (Rd.ofRow (m := 32) hbs1 (by simp [hsl]) (by decide)) hsl.symm rfl) (by omega)) (fun v11 w11 hr11 => ?_)
  obtain ⟨rfl, hc11⟩ := hr11
  have q11 := q1.trans0 hc11
  refine TL.fieldAddr fd32k5 rfl rfl ?_
  refine TL.store sz9 rfl rfl rfl ((hb2.ch0 hc4).ch0 q11) (by simp [cl]) (by simp [Value.cells, Value.oneCell']) (.inl rfl) (fun ws2 hbs2 hcs2 hzs2 => ?_)
  replace hbs2 : Has ws2 w.heap.size (cl (sealedR r b)).toArray 32 (0, 0) := hbs2.setOne rfl (by simp [cl])
  have hb4' := (hb4.ch0 q11).ch hcs2 (by simp; omega)
  refine TL.done ?_
  refine Thn.go ?_
  refine TC.seq ?_
  refine TC.region ?_
  refine TL.loadAgg (cl (sealedR r b)) ag32 rfl rfl (fun j _ => by rw [hbs2.cell, Nat.zero_add, List.getElem?_toArray]) rfl ?_
  refine TL.store sz32 rfl rfl rfl hb4' (by simp [Value.cells]) (by simpa [Value.cells] using cl_one (sealedR r b)) (.inl rfl) (fun ws3 hbs3 hcs3 hzs3 => ?_)
  replace hbs3 : Has ws3 w2.heap.size (cl (sealedR r b)).toArray 32 (0, 0) := hbs3.setAll rfl
  refine TL.done ?_
  refine Thn.go ?_
  refine TC.ret ?_
  refine Ends.cell (cl (sealedR r b)) (.inl rfl) rfl ag32 rfl rfl (fun j _ => by rw [hbs3.cell, Nat.zero_add, List.getElem?_toArray]) ?_
  exact ⟨rfl, (((hc2.trans0 hc4).trans0 q11).then1 hcs2 (Nat.le_refl _)).then1 hcs3 (by omega)⟩

theorem fn30 (r : Audit.Record) (b : List UInt8) (h1 : r.user.length ≤ 100000) (h2 : r.deed.length ≤ 100000) (h3 : b.length ≤ 100000) (w : World) : Rets Try.prog 30 #[.agg (cl r).toArray, str b] w (fun v w' => v = str (Audit.hashed r b) ∧ Ch [] w w') := by
  have hmm : maxLen = 9223372036854775807 := rfl
  have hbl := Audit.bytesR_len r b h1 h2 h3
  have hsl := Sha.sum_len (Audit.bytesR r b)
  refine Rets.of (n := 24) (vs := [_, _]) Try.func30 rfl rfl rfl ?_
  refine TC.seq ?_
  refine TC.region ?_
  refine TL.box rfl rfl (fun w2 hb2 hc2 hz2 => ?_)
  replace hb2 : Has w2 w.heap.size (cl r).toArray 32 (0, 0) := hb2
  refine TL.assign rfl rfl ?_
  refine TL.done ?_
  refine Thn.go ?_
  refine TC.seq ?_
  refine TC.region ?_
  refine TL.loadAgg (cl r) ag32 rfl rfl (fun j _ => by rw [hb2.cell, Nat.zero_add, List.getElem?_toArray]) rfl ?_
  refine TL.move rfl rfl ?_
  refine TL.call can36 rfl rfl (fn36 r b h1 h2 h3 w2) (fun v10 w10 hr10 => ?_)
  obtain ⟨hv10, hc10⟩ := hr10
  obtain ⟨a10, c10, rfl⟩ := hv10.shape
  refine TL.call can43 rfl rfl (fn43 _ (Audit.bytesR r b) (by omega) w10 (Rd.ofOwn hv10)) (fun v11 w11 hr11 => ?_)
  obtain ⟨rfl, hc11⟩ := hr11
  refine TL.alloc ze48 rfl (fun w5 hb5 hc5 hz5 => ?_)
  refine TL.store sz48 rfl rfl (by simpa [Value.cells] using hsl) hb5 (by simp [Value.cells]) (by simpa [Value.cells] using one_u8 (Sha.sum (Audit.bytesR r b))) (.inl rfl) (fun ws1 hbs1 hcs1 hzs1 => ?_)
  obtain ⟨D, hD⟩ : ∃ D, Sha.sum (Audit.bytesR r b) = D := ⟨_, rfl⟩
  rw [hD] at hbs1 hsl
  replace hbs1 : Has ws1 w11.heap.size (D.map u8).toArray 48 (0, 0) := hbs1.setAll (by simp [Value.cells, hsl])
  have z10 := hc10.size; have z11 := hc11.size
  have q1 : Ch [] w ws1 := (((hc2.trans0 hc10).trans0 hc11).trans0 hc5).then1 hcs1 (by omega)
  refine TL.done ?_
  refine Thn.go ?_
  refine TC.seq ?_
  refine TC.region ?_
  refine TL.assign rfl rfl ?_
  refine TL.done ?_
  refine Thn.go ?_
  refine TC.seq ?_
  refine TC.seq ?_
  refine TC.region ?_
  refine TL.assign rfl rfl ?_
  refine TL.done ?_
  refine Thn.go ?_
  refine TC.block ?_
  refine TC.loop2 (fun (k : Nat) (v : Value) => [(5, .pointer (some ⟨w11.heap.size, 0, none⟩)), (6, v), (7, .int .i64 (k : Int))]) (fun k v w4 => k ≤ 32 ∧ Own w4 ws1.heap.size 5 1 v k ((D.take k).map u8) ∧ Ch [] ws1 w4) (fun k _ => 32 - k) 0 (.slice none 0 0) (by repeat (first | exact trivial | refine ⟨rfl, ?_⟩)) (⟨by omega, World.ownsRow_nil _ _ _ _, Ch.refl _ _⟩) (fun k v w4 hH => ?_)
  obtain ⟨hk, hown, hch4⟩ := hH
  have z4 := hch4.size
  refine TC.seq ?_
  refine TC.seq ?_
  refine TC.region ?_
  refine TL.move rfl rfl ?_
  refine TL.lss rfl rfl rfl ?_
  refine TL.done ?_
  refine Thn.go ?_
  refine TC.condP rfl (fun h1 => ?_) (fun h1 => ?_)
  ·
    have hk3 : k < 32 := by omega
    refine TC.skip ?_
    refine Thn.go ?_
    refine TC.seq ?_
    refine TC.block ?_
    refine TC.region ?_
    refine TL.move rfl rfl ?_
    refine TL.move rfl rfl ?_
    refine TL.indexArr (k) ar48 rfl rfl (by first | rfl | omega) (by omega) rfl ?_
    refine TL.load pl5 rfl (by rw [(hbs1.ch0 hch4).cell, Nat.zero_add, Nat.mul_one, List.getElem?_toArray, List.getElem?_map, map_getD D k 0 (by omega)]; rfl) rfl ?_
    refine TL.buildSlice [.tmp 19] sl50 rfl rfl rfl (by decide) (by first | simp [Value.cells]; done | simp [Value.cells, cl_len]; done) rfl (fun w20 hb20 hc20 hz20 => ?_)
    refine TL.append sl50 rfl rfl rfl (hown.ch0 hc20) (News.ofRd Try.underlying50 (Rd.byte _ hb20) (one_byte _)) (by omega) (by omega) (by omega) (fun v21 w21 hv21 hc21 _ => ?_)
    refine TL.assign rfl rfl ?_
    refine TL.done ?_
    refine Blk.go ?_
    refine Thn.go ?_
    refine TC.region ?_
    refine TL.move rfl rfl ?_
    refine TL.add_i64 rfl rfl (by omega) (by omega) rfl ?_
    refine TL.assign rfl rfl ?_
    refine TL.done ?_
    refine Lp.go ((k + 1, v21)) (by repeat (first | exact trivial | refine ⟨rfl, ?_⟩)) ?_ (by first | omega | (dsimp only; omega))
    refine ⟨by show k + 1 ≤ 32; omega, ?_, (hown.ch0 hc20).thenCh (hch4.trans0 hc20) hc21⟩
    show Own w21 _ 5 1 v21 (k + 1) ((D.take (k + 1)).map u8)
    rw [List.take_add_one, map_getD D k 0 (by omega), List.map_append]
    exact hv21
  ·
    have hk3 : k = 32 := by omega
    subst hk3
    rw [List.take_of_length_le (by omega)] at hown
    refine TC.exit ?_
    refine Thn.exit ?_
    refine Lp.exit ?_
    refine Blk.hit ?_
    refine Thn.go ?_
    refine TC.seq ?_
    refine TC.region ?_
    refine TL.move rfl rfl ?_
    refine TL.call can44 rfl rfl (fn44 _ D w4 (Rd.bytes _ (Rd.ofOwn hown) hsl.symm rfl) (by omega)) (fun v23 w23 hr23 => ?_)
    obtain ⟨rfl, hc23⟩ := hr23
    refine TL.assign rfl rfl ?_
    refine TL.done ?_
    refine Thn.go ?_
    refine TC.ret ?_
    refine Ends.ret [4] rfl rfl ?_
    exact ⟨by rw [Audit.hashed, hD]; rfl, (q1.trans0 hch4).trans0 hc23⟩

theorem fn42 (r : Audit.Record) (hr : r.hash.length ≤ 100000) (w : World) : Rets Try.prog 42 #[.agg (cl r).toArray] w (fun v w' => v = .bool (decide (¬ Audit.may r)) ∧ Ch [] w w') := by
  refine Rets.of (n := 6) (vs := [_]) Try.func42 rfl rfl rfl ?_
  refine TC.seq ?_
  refine TC.region ?_
  refine TL.box rfl rfl (fun w1 hb1 hc1 hz1 => ?_)
  replace hb1 : Has w1 w.heap.size (cl r).toArray 32 (0, 0) := hb1
  refine TL.assign rfl rfl ?_
  refine TL.done ?_
  refine Thn.go ?_
  refine TC.seq ?_
  refine TC.region ?_
  refine TL.loadAgg (cl r) ag32 rfl rfl (fun j _ => by rw [hb1.cell, Nat.zero_add, List.getElem?_toArray]) rfl ?_
  refine TL.call can31 rfl rfl (fn31 r hr w1) (fun v4 w4 hr4 => ?_)
  obtain ⟨rfl, hc4⟩ := hr4
  refine TL.notP rfl rfl ?_
  refine TL.assign rfl rfl ?_
  refine TL.done ?_
  refine Thn.go ?_
  refine TC.ret ?_
  refine Ends.ret [2] rfl rfl ?_
  exact ⟨rfl, hc1.trans0 hc4⟩

theorem fn55 (a : Value) (l : List Audit.Record) (w : World) (ha : Rd w a 6 l.length (l.flatMap cl)) (hl : ∀ r ∈ l, r.hash.length ≤ 100000) : Rets Try.prog 55 #[a, .func (.func 42) #[] #[]] w (fun v w' => (∃ k : Int, v = .int .i64 k ∧ (k ≥ 0 ↔ ∃ r ∈ l, ¬ Audit.may r)) ∧ Ch [] w w') := by
  obtain ⟨ad, c, rfl, _⟩ := ha.shape
  have hmx : l.length ≤ 9223372036854775807 := ha.nlt
  refine Rets.of (n := 19) (vs := [_, _]) Try.func55 rfl rfl rfl ?_
  refine TC.seq ?_
  refine TC.region ?_
  refine TL.assign rfl rfl ?_
  refine TL.done ?_
  refine Thn.go ?_
  refine TC.seq ?_
  refine TC.seq ?_
  refine TC.region ?_
  refine TL.move rfl rfl ?_
  refine TL.lenSlice Try.underlying22 rfl rfl ?_
  refine TL.move rfl rfl ?_
  refine TL.done ?_
  refine Thn.go ?_
  refine TC.block ?_
  refine TC.loop1 (fun (i : Nat) => [(0, .slice ad l.length c), (1, .func (.func 42) #[] #[]), (7, .int .i64 (l.length : Int)), (8, .int .i64 (i : Int))]) (fun i w' => i ≤ l.length ∧ (∀ j, j < i → Audit.may (Audit.rec l j)) ∧ Ch [] w w') (fun i => l.length - i) 0 (by repeat (first | exact trivial | refine ⟨rfl, ?_⟩)) (⟨by omega, by intro j hj; omega, Ch.refl _ _⟩) (fun i w' hH => ?_)
  obtain ⟨hi, hg, hch⟩ := hH
  refine TC.seq ?_
  refine TC.region ?_
  refine TL.lss rfl rfl rfl ?_
  refine TL.done ?_
  refine Thn.go ?_
  refine TC.seq ?_
  refine TC.condP rfl (fun h1 => ?_) (fun h1 => ?_)
  ·
    have hil : i < l.length := by omega
    obtain ⟨b1, o1, rfl, hce⟩ := recAt (ha.ch0 hch) hil
    refine TC.skip ?_
    refine Thn.go ?_
    refine TC.seq ?_
    refine TC.block ?_
    refine TC.seq ?_
    refine TC.region ?_
    refine TL.move rfl rfl ?_
    refine TL.assign rfl rfl ?_
    refine TL.done ?_
    refine Thn.go ?_
    refine TC.seq ?_
    refine TC.region ?_
    refine TL.move rfl rfl ?_
    refine TL.move rfl rfl ?_
    refine TL.move rfl rfl ?_
    refine TL.indexAddr (i) sl22 rfl rfl (by first | rfl | omega) (by omega) rfl ?_
    refine TL.loadAgg (cl (Audit.rec l i)) ag32 rfl rfl (fun j hj => hce j hj) rfl ?_
    refine TL.callVal can42 (R := fun v w2 => v = .bool (decide (¬ Audit.may (Audit.rec l i))) ∧ Ch [] w' w2) rfl rfl rfl (by simpa using fn42 (Audit.rec l i) (hl _ (Audit.rec_mem hil)) w') (fun v16 w16 hr16 => ?_)
    obtain ⟨rfl, hc16⟩ := hr16
    refine TL.done ?_
    refine Thn.go ?_
    refine TC.condP rfl (fun h2 => ?_) (fun h2 => ?_)
    ·
      refine TC.seq ?_
      refine TC.region ?_
      refine TL.move rfl rfl ?_
      refine TL.assign rfl rfl ?_
      refine TL.done ?_
      refine Thn.go ?_
      refine TC.ret ?_
      refine Blk.ret ?_
      refine Thn.ret ?_
      refine Lp.ret ?_
      refine Blk.ret ?_
      refine Thn.ret ?_
      refine Ends.ret [4] rfl rfl ?_
      exact ⟨⟨_, rfl, fun _ => ⟨_, Audit.rec_mem hil, h2⟩, fun _ => by omega⟩, hch.trans0 hc16⟩
    ·
      refine TC.skip ?_
      refine Blk.go ?_
      refine Thn.go ?_
      refine TC.region ?_
      refine TL.add_i64 rfl rfl (by omega) (by omega) rfl ?_
      refine TL.move rfl rfl ?_
      refine TL.done ?_
      refine Lp.go (i + 1) (by repeat (first | exact trivial | refine ⟨rfl, ?_⟩)) ?_ (by first | omega | (dsimp only; omega))
      refine ⟨by omega, fun j hj => ?_, hch.trans0 hc16⟩
      rcases Nat.lt_or_ge j i with h | h
      · exact hg j h
      · rw [show j = i by omega]; exact Decidable.not_not.1 h2
  ·
    have hil : i = l.length := by omega
    subst hil
    refine TC.exit ?_
    refine Thn.exit ?_
    refine Lp.exit ?_
    refine Blk.hit ?_
    refine Thn.go ?_
    refine TC.seq ?_
    refine TC.region ?_
    refine TL.assign rfl rfl ?_
    refine TL.done ?_
    refine Thn.go ?_
    refine TC.ret ?_
    refine Ends.ret [4] rfl rfl ?_
    exact ⟨⟨_, rfl, fun h => absurd h (by decide), fun ⟨r, hr, hn⟩ => by obtain ⟨j, hj, rfl⟩ := List.mem_iff_getElem.1 hr; rw [Audit.rec_eq hj] at hn; exact absurd (hg j hj) hn⟩, hch⟩

theorem fn41 (a : Value) (l : List Audit.Record) (w : World) (ha : Rd w a 6 l.length (l.flatMap cl)) (hl : ∀ r ∈ l, r.hash.length ≤ 100000) : Rets Try.prog 41 #[a, .func (.func 42) #[] #[]] w (fun v w' => v = .bool (decide (∃ r ∈ l, ¬ Audit.may r)) ∧ Ch [] w w') := by
  refine Rets.of (n := 9) (vs := [_, _]) Try.func41 rfl rfl rfl ?_
  refine TC.seq ?_
  refine TC.region ?_
  refine TL.assign rfl rfl ?_
  refine TL.done ?_
  refine Thn.go ?_
  refine TC.seq ?_
  refine TC.region ?_
  refine TL.move rfl rfl ?_
  refine TL.move rfl rfl ?_
  refine TL.call can55 rfl rfl (fn55 a l w ha hl) (fun v7 w7 hr7 => ?_)
  obtain ⟨⟨k, rfl, hk⟩, hc7⟩ := hr7
  refine TL.geq rfl rfl rfl ?_
  refine TL.assign rfl rfl ?_
  refine TL.done ?_
  refine Thn.go ?_
  refine TC.ret ?_
  refine Ends.ret [4] rfl rfl ?_
  exact ⟨congrArg Value.bool (decide_eq_decide.2 hk), hc7⟩

theorem fn24 (a : Value) (l : List Audit.Record) (w : World) (ha : Rd w a 6 l.length (l.flatMap cl)) (hl : l.length ≤ 4096 → ∀ r ∈ l, r.hash.length ≤ 100000) : Rets Try.prog 24 #[a] w (fun v w' => v = .int .i64 (Audit.askedE l : Int) ∧ Ch [] w w') := by
  obtain ⟨ad, c, rfl, _⟩ := ha.shape
  refine Rets.of (n := 8) (vs := [_]) Try.func24 rfl rfl rfl ?_
  refine TC.seq ?_
  refine TC.region ?_
  refine TL.assign rfl rfl ?_
  refine TL.done ?_
  refine Thn.go ?_
  refine TC.seq ?_
  refine TC.seq ?_
  refine TC.region ?_
  refine TL.move rfl rfl ?_
  refine TL.lenSlice Try.underlying22 rfl rfl ?_
  refine TL.gtr rfl rfl rfl ?_
  refine TL.done ?_
  refine Thn.go ?_
  refine TC.condP rfl (fun h1 => ?_) (fun h1 => ?_)
  ·
    refine TC.seq ?_
    refine TC.region ?_
    refine TL.assign rfl rfl ?_
    refine TL.done ?_
    refine Thn.go ?_
    refine TC.ret ?_
    refine Thn.ret ?_
    refine Ends.ret [2] rfl rfl ?_
    exact ⟨by rw [Audit.asked_many (by omega)]; rfl, Ch.refl _ _⟩
  ·
    refine TC.skip ?_
    refine Thn.go ?_
    refine TC.seq ?_
    refine TC.seq ?_
    refine TC.region ?_
    refine TL.move rfl rfl ?_
    refine TL.call can41 rfl rfl (fn41 _ l w ha (hl (by omega))) (fun v7 w7 hr7 => ?_)
    obtain ⟨rfl, hc7⟩ := hr7
    refine TL.done ?_
    refine Thn.go ?_
    refine TC.condP rfl (fun h2 => ?_) (fun h2 => ?_)
    ·
      refine TC.seq ?_
      refine TC.region ?_
      refine TL.assign rfl rfl ?_
      refine TL.done ?_
      refine Thn.go ?_
      refine TC.ret ?_
      refine Thn.ret ?_
      refine Ends.ret [2] rfl rfl ?_
      exact ⟨by rw [Audit.asked_bad (by omega) h2]; rfl, hc7⟩
    ·
      refine TC.skip ?_
      refine Thn.go ?_
      refine TC.seq ?_
      refine TC.region ?_
      refine TL.assign rfl rfl ?_
      refine TL.done ?_
      refine Thn.go ?_
      refine TC.ret ?_
      refine Ends.ret [2] rfl rfl ?_
      exact ⟨by rw [Audit.asked_ok (by omega) (fun r hr => Decidable.byContradiction fun hn => h2 ⟨r, hr, hn⟩)]; rfl, hc7⟩

theorem fn28 (a : Value) (l : List Audit.Record) (w : World) (ha : Rd w a 6 l.length (l.flatMap cl)) (hl : l.length ≤ 4096 → ∀ r ∈ l, r.hash.length ≤ 100000) : Rets Try.prog 28 #[a] w (fun v w' => v = .int .i64 (Audit.askedE l : Int) ∧ Ch [] w w') := by
  obtain ⟨ad, c, rfl, _⟩ := ha.shape
  refine Rets.of (n := 19) (vs := [_]) Try.func28 rfl rfl rfl ?_
  refine TC.seq ?_
  refine TC.region ?_
  refine TL.assign rfl rfl ?_
  refine TL.done ?_
  refine Thn.go ?_
  refine TC.seq ?_
  refine TC.seq ?_
  refine TC.region ?_
  refine TL.move rfl rfl ?_
  refine TL.lenSlice Try.underlying22 rfl rfl ?_
  refine TL.gtr rfl rfl rfl ?_
  refine TL.done ?_
  refine Thn.go ?_
  refine TC.condP rfl (fun h1 => ?_) (fun h1 => ?_)
  ·
    refine TC.seq ?_
    refine TC.region ?_
    refine TL.assign rfl rfl ?_
    refine TL.done ?_
    refine Thn.go ?_
    refine TC.ret ?_
    refine Thn.ret ?_
    refine Ends.ret [2] rfl rfl ?_
    exact ⟨by rw [Audit.asked_many (by omega)]; rfl, Ch.refl _ _⟩
  ·
    refine TC.skip ?_
    refine Thn.go ?_
    refine TC.seq ?_
    refine TC.seq ?_
    refine TC.region ?_
    refine TL.assign rfl rfl ?_
    refine TL.done ?_
    refine Thn.go ?_
    refine TC.block ?_
    refine TC.loop1 (fun (i : Nat) => [(0, .slice ad l.length c), (3, .int .i64 (i : Int))]) (fun i w' => i ≤ l.length ∧ (∀ j, j < i → Audit.may (Audit.rec l j)) ∧ Ch [] w w') (fun i => l.length - i) 0 (by repeat (first | exact trivial | refine ⟨rfl, ?_⟩)) (⟨by omega, by intro j hj; omega, Ch.refl _ _⟩) (fun i w' hH => ?_)
    obtain ⟨hi, hg, hch⟩ := hH
    refine TC.seq ?_
    refine TC.seq ?_
    refine TC.region ?_
    refine TL.move rfl rfl ?_
    refine TL.move rfl rfl ?_
    refine TL.lenSlice Try.underlying22 rfl rfl ?_
    refine TL.lss rfl rfl rfl ?_
    refine TL.done ?_
    refine Thn.go ?_
    refine TC.condP rfl (fun h2 => ?_) (fun h2 => ?_)
    ·
      have hil : i < l.length := by omega
      obtain ⟨b1, o1, rfl, hce⟩ := recAt (ha.ch0 hch) hil
      refine TC.skip ?_
      refine Thn.go ?_
      refine TC.seq ?_
      refine TC.block ?_
      refine TC.seq ?_
      refine TC.region ?_
      refine TL.move rfl rfl ?_
      refine TL.move rfl rfl ?_
      refine TL.indexAddr (i) sl22 rfl rfl (by first | rfl | omega) (by omega) rfl ?_
      refine TL.loadAgg (cl (Audit.rec l i)) ag32 rfl rfl (fun j hj => hce j hj) rfl ?_
      refine TL.call can34 rfl rfl (fn34 (Audit.rec l i) (hl (by omega) _ (Audit.rec_mem hil)) w') (fun v17 w17 hr17 => ?_)
      obtain ⟨rfl, hc17⟩ := hr17
      refine TL.notP rfl rfl ?_
      refine TL.done ?_
      refine Thn.go ?_
      refine TC.condP rfl (fun h3 => ?_) (fun h3 => ?_)
      ·
        refine TC.seq ?_
        refine TC.region ?_
        refine TL.assign rfl rfl ?_
        refine TL.done ?_
        refine Thn.go ?_
        refine TC.ret ?_
        refine Blk.ret ?_
        refine Thn.ret ?_
        refine Lp.ret ?_
        refine Blk.ret ?_
        refine Thn.ret ?_
        refine Ends.ret [2] rfl rfl ?_
        exact ⟨by rw [Audit.asked_bad (by omega) ⟨_, Audit.rec_mem hil, h3⟩]; rfl, hch.trans0 hc17⟩
      ·
        refine TC.skip ?_
        refine Blk.go ?_
        refine Thn.go ?_
        refine TC.region ?_
        refine TL.move rfl rfl ?_
        refine TL.add_i64 rfl rfl (by omega) (by omega) rfl ?_
        refine TL.assign rfl rfl ?_
        refine TL.done ?_
        refine Lp.go (i + 1) (by repeat (first | exact trivial | refine ⟨rfl, ?_⟩)) ?_ (by first | omega | (dsimp only; omega))
        refine ⟨by omega, fun j hj => ?_, hch.trans0 hc17⟩
        rcases Nat.lt_or_ge j i with h | h
        · exact hg j h
        · rw [show j = i by omega]; exact Decidable.not_not.1 h3
    ·
      have hil : i = l.length := by omega
      subst hil
      refine TC.exit ?_
      refine Thn.exit ?_
      refine Lp.exit ?_
      refine Blk.hit ?_
      refine Thn.go ?_
      refine TC.seq ?_
      refine TC.region ?_
      refine TL.assign rfl rfl ?_
      refine TL.done ?_
      refine Thn.go ?_
      refine TC.ret ?_
      refine Ends.ret [2] rfl rfl ?_
      exact ⟨by rw [Audit.asked_ok (by omega) (fun r hr => by obtain ⟨j, hj, rfl⟩ := List.mem_iff_getElem.1 hr; rw [Audit.rec_eq hj]; exact hg j hj)]; rfl, hch⟩

theorem fn25 (a : Value) (l : List Audit.Record) (w : World) (ha : Rd w a 6 l.length (l.flatMap cl)) (hm : ∀ r ∈ l, Audit.may r) : Rets Try.prog 25 #[a] w (fun v w' => v = .int .i64 (Audit.firstI l) ∧ Ch [] w w') := by
  obtain ⟨ad, c, rfl, _⟩ := ha.shape
  have hmx : l.length ≤ 9223372036854775807 := ha.nlt
  refine Rets.of (n := 37) (vs := [_]) Try.func25 rfl rfl rfl ?_
  refine TC.seq ?_
  refine TC.region ?_
  refine TL.assign rfl rfl ?_
  refine TL.done ?_
  refine Thn.go ?_
  refine TC.seq ?_
  refine TC.region ?_
  refine TL.assign rfl rfl ?_
  refine TL.assign rfl rfl ?_
  refine TL.done ?_
  refine Thn.go ?_
  refine TC.seq ?_
  refine TC.seq ?_
  refine TC.region ?_
  refine TL.move rfl rfl ?_
  refine TL.lenSlice Try.underlying22 rfl rfl ?_
  refine TL.move rfl rfl ?_
  refine TL.done ?_
  refine Thn.go ?_
  refine TC.block ?_
  refine TC.loop1 (fun (i : Nat) => [(3, str (Audit.before l i)), (4, .int .i64 (atB l i)), (7, .slice ad l.length c), (8, .int .i64 (l.length : Int)), (9, .int .i64 (i : Int))]) (fun i w' => i ≤ l.length ∧ (∀ j, j < i → Audit.fits l j) ∧ Ch [] w w') (fun i => l.length - i) 0 (by repeat (first | exact trivial | refine ⟨rfl, ?_⟩)) (⟨by omega, by intro j hj; omega, Ch.refl _ _⟩) (fun i w' hH => ?_)
  obtain ⟨hi, hg, hch⟩ := hH
  refine TC.seq ?_
  refine TC.region ?_
  refine TL.lss rfl rfl rfl ?_
  refine TL.done ?_
  refine Thn.go ?_
  refine TC.seq ?_
  refine TC.condP rfl (fun h1 => ?_) (fun h1 => ?_)
  ·
    have hil : i < l.length := by omega
    obtain ⟨b1, o1, rfl, hce⟩ := recAt (ha.ch0 hch) hil
    have hfi := fits_iff hm hil
    have hmi := hm _ (Audit.rec_mem hil)
    obtain ⟨hb1, _⟩ := Audit.before_len hm (i := i) (by omega)
    obtain ⟨r, hr⟩ : ∃ r, Audit.rec l i = r := ⟨_, rfl⟩
    rw [hr] at hce hfi hmi
    have hsi := sealed_iff r (Audit.before l i)
    obtain ⟨m1, m2, m3, m4, m5, m6, m7, m8⟩ := hmi
    refine TC.skip ?_
    refine Thn.go ?_
    refine TC.seq ?_
    refine TC.block ?_
    refine TC.seq ?_
    refine TC.region ?_
    refine TL.move rfl rfl ?_
    refine TL.indexAddr (i) sl22 rfl rfl (by first | rfl | omega) (by omega) rfl ?_
    refine TL.loadAgg (cl r) ag32 rfl rfl (fun j hj => hce j hj) rfl ?_
    refine TL.alloc ze32 rfl (fun w6 hb6 hc6 hz6 => ?_)
    refine TL.assign rfl rfl ?_
    refine TL.store sz32 rfl rfl rfl hb6 (by simp [Value.cells]) (by simpa [Value.cells] using cl_one r) (.inl rfl) (fun ws1 hbs1 hcs1 hzs1 => ?_)
    replace hbs1 : Has ws1 w'.heap.size (cl r).toArray 32 (0, 0) := hbs1.setAll rfl
    have q1 : Ch [] w' ws1 := hc6.then1 hcs1 (Nat.le_refl _)
    refine TL.done ?_
    refine Thn.go ?_
    refine TC.seq ?_
    refine TC.cut0 ([(5, .int .i64 (i : Int)), (6, .pointer (some ⟨w'.heap.size, 0, none⟩)), (7, .slice (some ⟨b1, o1, none⟩) l.length c), (8, .int .i64 (l.length : Int)), (9, .int .i64 (i : Int)), (30, .bool (decide (¬ Audit.fits l i)))]) (fun w3 => Ch [] ws1 w3) (fun K2 hK2 => ?_) (fun w3 hH => ?_)
    ·
      refine TC.regionQ (fun w4 => Ch [] ws1 w4) mixed0 (by kernel_rfl) (Ch.drew [] ws1) ?_
      refine TQ.via rfl rfl rfl rfl (fun w2 hw2 => TL.fieldAddr fd32k0 rfl rfl (TL.done ⟨rfl, rfl⟩)) ?_
      refine TQ.via rfl rfl rfl rfl (fun w2 hw2 => TL.load pl3 rfl ((show _ = some (Value.int .i64 r.seq) from (hbs1.ch0 hw2).cell _)) rfl (TL.done ⟨rfl, rfl⟩)) ?_
      refine TQ.via rfl rfl rfl rfl (fun w2 hw2 => TL.move rfl rfl (TL.done ⟨rfl, rfl⟩)) ?_
      refine TQ.via rfl rfl rfl rfl (fun w2 hw2 => TL.neq rfl rfl rfl (TL.done ⟨rfl, rfl⟩)) ?_
      refine TQ.em (fun e17 => ?_) (fun e17 => ?_)
      ·
        refine TQ.via rfl rfl rfl rfl (fun w2 hw2 => TL.move rfl rfl (TL.done ⟨rfl, rfl⟩)) ?_
        refine TQ.guardNo (d := 18) rfl rfl rfl rfl rfl ?_
        refine TQ.guardNo (d := 18) rfl rfl rfl rfl rfl ?_
        refine TQ.guardNo (d := 18) rfl rfl rfl rfl rfl ?_
        refine TQ.guardNo (d := 18) rfl rfl rfl rfl rfl ?_
        refine TQ.via rfl rfl rfl rfl (fun w2 hw2 => TL.pickT rfl rfl rfl rfl (TL.done ⟨rfl, rfl⟩)) ?_
        refine TQ.via rfl rfl rfl rfl (fun w2 hw2 => TL.move rfl rfl (TL.done ⟨rfl, rfl⟩)) ?_
        refine TQ.guardNo (d := 24) rfl rfl rfl rfl rfl ?_
        refine TQ.guardNo (d := 24) rfl rfl rfl rfl rfl ?_
        refine TQ.guardNo (d := 24) rfl rfl rfl rfl rfl ?_
        refine TQ.guardNo (d := 24) rfl rfl rfl rfl rfl ?_
        refine TQ.guardNo (d := 24) rfl rfl rfl rfl rfl ?_
        refine TQ.via rfl rfl rfl rfl (fun w2 hw2 => TL.pickT rfl rfl rfl rfl (TL.done ⟨rfl, rfl⟩)) ?_
        refine TQ.done (fun w2 hw2 => ?_)
        exact hK2  _ _ (by repeat (first | exact trivial | refine ⟨rfl, ?_⟩ | refine ⟨congrArg (fun b => some (Value.bool b)) (by first | exact (decide_eq_true (by grind)).symm | exact (decide_eq_false (by grind)).symm | exact decide_eq_decide.2 (by grind) | exact decide_eq_true (by grind) | exact decide_eq_false (by grind) | (exfalso; grind)), ?_⟩)) (hw2)
      ·
        refine TQ.via rfl rfl rfl rfl (fun w2 hw2 => TL.move rfl rfl (TL.done ⟨rfl, rfl⟩)) ?_
        refine TQ.guardYes (d := 18) rfl rfl rfl ?_
        refine TQ.via rfl rfl rfl rfl (fun w2 hw2 => TL.fieldAddr fd32k1 rfl rfl (TL.done ⟨rfl, rfl⟩)) ?_
        refine TQ.guardYes (d := 18) rfl rfl rfl ?_
        refine TQ.via rfl rfl rfl rfl (fun w2 hw2 => TL.load pl3 rfl ((show _ = some (Value.int .i64 r.at_) from (hbs1.ch0 hw2).cell _)) rfl (TL.done ⟨rfl, rfl⟩)) ?_
        refine TQ.guardYes (d := 18) rfl rfl rfl ?_
        refine TQ.via rfl rfl rfl rfl (fun w2 hw2 => TL.move rfl rfl (TL.done ⟨rfl, rfl⟩)) ?_
        refine TQ.guardYes (d := 18) rfl rfl rfl ?_
        refine TQ.via rfl rfl rfl rfl (fun w2 hw2 => TL.lss rfl rfl rfl (TL.done ⟨rfl, rfl⟩)) ?_
        refine TQ.em (fun e22 => ?_) (fun e22 => ?_)
        ·
          refine TQ.via rfl rfl rfl rfl (fun w2 hw2 => TL.pickF rfl rfl rfl rfl (TL.done ⟨rfl, rfl⟩)) ?_
          refine TQ.via rfl rfl rfl rfl (fun w2 hw2 => TL.move rfl rfl (TL.done ⟨rfl, rfl⟩)) ?_
          refine TQ.guardNo (d := 24) rfl rfl rfl rfl rfl ?_
          refine TQ.guardNo (d := 24) rfl rfl rfl rfl rfl ?_
          refine TQ.guardNo (d := 24) rfl rfl rfl rfl rfl ?_
          refine TQ.guardNo (d := 24) rfl rfl rfl rfl rfl ?_
          refine TQ.guardNo (d := 24) rfl rfl rfl rfl rfl ?_
          refine TQ.via rfl rfl rfl rfl (fun w2 hw2 => TL.pickT rfl rfl rfl rfl (TL.done ⟨rfl, rfl⟩)) ?_
          refine TQ.done (fun w2 hw2 => ?_)
          exact hK2  _ _ (by repeat (first | exact trivial | refine ⟨rfl, ?_⟩ | refine ⟨congrArg (fun b => some (Value.bool b)) (by first | exact (decide_eq_true (by grind)).symm | exact (decide_eq_false (by grind)).symm | exact decide_eq_decide.2 (by grind) | exact decide_eq_true (by grind) | exact decide_eq_false (by grind) | (exfalso; grind)), ?_⟩)) (hw2)
        ·
          refine TQ.via rfl rfl rfl rfl (fun w2 hw2 => TL.pickF rfl rfl rfl rfl (TL.done ⟨rfl, rfl⟩)) ?_
          refine TQ.via rfl rfl rfl rfl (fun w2 hw2 => TL.move rfl rfl (TL.done ⟨rfl, rfl⟩)) ?_
          refine TQ.guardYes (d := 24) rfl rfl rfl ?_
          refine TQ.via rfl rfl rfl rfl (fun w2 hw2 => TL.loadAgg (cl r) ag32 rfl rfl (fun j _ => by rw [(hbs1.ch0 hw2).cell, Nat.zero_add, List.getElem?_toArray]) rfl (TL.done ⟨rfl, rfl⟩)) ?_
          refine TQ.guardYes (d := 24) rfl rfl rfl ?_
          refine TQ.via rfl rfl rfl rfl (fun w2 hw2 => TL.move rfl rfl (TL.done ⟨rfl, rfl⟩)) ?_
          refine TQ.guardYes (d := 24) rfl rfl rfl ?_
          refine TQ.call (.agg (cl (sealedR r (Audit.before l i))).toArray) can27 rfl rfl (fun w2 hw2 => (fn27 r (Audit.before l i) (by omega) (by omega) (by omega) w2).mono (fun _ _ ⟨q1, q2⟩ => ⟨q1, hw2.trans0 q2⟩)) ?_
          refine TQ.guardYes (d := 24) rfl rfl rfl ?_
          refine TQ.via rfl rfl rfl rfl (fun w2 hw2 => TL.loadAgg (cl r) ag32 rfl rfl (fun j _ => by rw [(hbs1.ch0 hw2).cell, Nat.zero_add, List.getElem?_toArray]) rfl (TL.done ⟨rfl, rfl⟩)) ?_
          refine TQ.guardYes (d := 24) rfl rfl rfl ?_
          refine TQ.via rfl rfl rfl rfl (fun w2 hw2 => TL.neqAgg gd32 (eqRecord _ _ _) rfl rfl rfl (TL.done ⟨rfl, rfl⟩)) ?_
          refine TQ.via rfl rfl rfl rfl (fun w2 hw2 => TL.pickF rfl rfl rfl rfl (TL.done ⟨rfl, rfl⟩)) ?_
          refine TQ.done (fun w2 hw2 => ?_)
          exact hK2  _ _ (by repeat (first | exact trivial | refine ⟨rfl, ?_⟩ | refine ⟨congrArg (fun b => some (Value.bool b)) (by first | exact (decide_eq_true (by grind)).symm | exact (decide_eq_false (by grind)).symm | exact decide_eq_decide.2 (by grind) | exact decide_eq_true (by grind) | exact decide_eq_false (by grind) | (exfalso; grind)), ?_⟩)) (hw2)
    ·
      refine TC.condP rfl (fun h5 => ?_) (fun h5 => ?_)
      ·
        refine TC.seq ?_
        refine TC.region ?_
        refine TL.move rfl rfl ?_
        refine TL.assign rfl rfl ?_
        refine TL.done ?_
        refine Thn.go ?_
        refine TC.ret ?_
        refine Thn.ret ?_
        refine Blk.ret ?_
        refine Thn.ret ?_
        refine Lp.ret ?_
        refine Blk.ret ?_
        refine Thn.ret ?_
        refine Ends.ret [2] rfl rfl ?_
        exact ⟨by rw [Audit.first_at hil h5 hg]; rfl, (hch.trans0 q1).trans0 hH⟩
      ·
        refine TC.skip ?_
        refine Thn.go ?_
        refine TC.regionQ (fun w4 => Ch [] w3 w4) mixed0 (by kernel_rfl) (Ch.drew [] w3) ?_
        refine TQ.via rfl rfl rfl rfl (fun w2 hw2 => TL.fieldAddr fd32k5 rfl rfl (TL.done ⟨rfl, rfl⟩)) ?_
        refine TQ.via rfl rfl rfl rfl (fun w2 hw2 => TL.load pl9 rfl ((show _ = some (str r.hash) from ((hbs1.ch0 hH).ch0 hw2).cell _)) rfl (TL.done ⟨rfl, rfl⟩)) ?_
        refine TQ.via rfl rfl rfl rfl (fun w2 hw2 => TL.fieldAddr fd32k1 rfl rfl (TL.done ⟨rfl, rfl⟩)) ?_
        refine TQ.via rfl rfl rfl rfl (fun w2 hw2 => TL.load pl3 rfl ((show _ = some (Value.int .i64 r.at_) from ((hbs1.ch0 hH).ch0 hw2).cell _)) rfl (TL.done ⟨rfl, rfl⟩)) ?_
        refine TQ.via rfl rfl rfl rfl (fun w2 hw2 => TL.assign rfl rfl (TL.done ⟨rfl, rfl⟩)) ?_
        refine TQ.top (v' := str (Audit.before l (i + 1))) (by rw [Audit.before_next, hr]) ?_
        refine TQ.via rfl rfl rfl rfl (fun w2 hw2 => TL.assign rfl rfl (TL.done ⟨rfl, rfl⟩)) ?_
        refine TQ.top (v' := .int .i64 (atB l (i + 1))) (by rw [atB, if_neg (by omega), Nat.add_sub_cancel, hr]) ?_
        refine TQ.done (fun w2 hw2 => ?_)
        refine Blk.go ?_
        refine Thn.go ?_
        refine TC.region ?_
        refine TL.add_i64 rfl rfl (by omega) (by omega) rfl ?_
        refine TL.move rfl rfl ?_
        refine TL.done ?_
        refine Lp.go (i + 1) (by repeat (first | exact trivial | refine ⟨rfl, ?_⟩)) ?_ (by first | omega | (dsimp only; omega))
        refine ⟨by omega, fun j hj => ?_, ((hch.trans0 q1).trans0 hH).trans0 hw2⟩
        rcases Nat.lt_or_ge j i with h | h
        · exact hg j h
        · rw [show j = i by omega]; exact Decidable.not_not.1 h5
  ·
    have hil : i = l.length := by omega
    subst hil
    refine TC.exit ?_
    refine Thn.exit ?_
    refine Lp.exit ?_
    refine Blk.hit ?_
    refine Thn.go ?_
    refine TC.seq ?_
    refine TC.region ?_
    refine TL.assign rfl rfl ?_
    refine TL.done ?_
    refine Thn.go ?_
    refine TC.ret ?_
    refine Ends.ret [2] rfl rfl ?_
    exact ⟨by rw [Audit.first_all hg]; rfl, hch⟩

theorem fn29 (a : Value) (l : List Audit.Record) (w : World) (ha : Rd w a 6 l.length (l.flatMap cl)) (hm : ∀ r ∈ l, Audit.may r) : Rets Try.prog 29 #[a] w (fun v w' => v = .int .i64 (Audit.firstI l) ∧ Ch [] w w') := by
  obtain ⟨ad, c, rfl, _⟩ := ha.shape
  have hmx : l.length ≤ 9223372036854775807 := ha.nlt
  refine Rets.of (n := 56) (vs := [_]) Try.func29 rfl rfl rfl ?_
  refine TC.seq ?_
  refine TC.region ?_
  refine TL.assign rfl rfl ?_
  refine TL.done ?_
  refine Thn.go ?_
  refine TC.seq ?_
  refine TC.region ?_
  refine TL.assign rfl rfl ?_
  refine TL.done ?_
  refine Thn.go ?_
  refine TC.seq ?_
  refine TC.seq ?_
  refine TC.region ?_
  refine TL.assign rfl rfl ?_
  refine TL.done ?_
  refine Thn.go ?_
  refine TC.block ?_
  refine TC.loop1 (fun (i : Nat) => [(0, .slice ad l.length c), (3, str (Audit.before l i)), (4, .int .i64 (i : Int))]) (fun i w' => i ≤ l.length ∧ (∀ j, j < i → Audit.fits l j) ∧ Ch [] w w') (fun i => l.length - i) 0 (by repeat (first | exact trivial | refine ⟨rfl, ?_⟩)) (⟨by omega, by intro j hj; omega, Ch.refl _ _⟩) (fun i w' hH => ?_)
  obtain ⟨hi, hg, hch⟩ := hH
  refine TC.seq ?_
  refine TC.seq ?_
  refine TC.region ?_
  refine TL.move rfl rfl ?_
  refine TL.move rfl rfl ?_
  refine TL.lenSlice Try.underlying22 rfl rfl ?_
  refine TL.lss rfl rfl rfl ?_
  refine TL.done ?_
  refine Thn.go ?_
  refine TC.condP rfl (fun h1 => ?_) (fun h1 => ?_)
  ·
    have hil : i < l.length := by omega
    obtain ⟨b1, o1, rfl, _⟩ := recAt (ha.ch0 hch) hil
    have hce : ∀ w2, Ch [] w' w2 → ∀ j, j < 6 → w2.cell? ⟨b1, o1 + i * 6 + j, none⟩ = (cl (Audit.rec l i))[j]? := fun w2 h2 => by obtain ⟨b', o', e, hh⟩ := recAt ((ha.ch0 hch).ch0 h2) hil; cases e; exact hh
    have hce2 : 0 < i → ∀ w2, Ch [] w' w2 → ∀ j, j < 6 → w2.cell? ⟨b1, o1 + (i - 1) * 6 + j, none⟩ = (cl (Audit.rec l (i - 1)))[j]? := fun h0 w2 h2 => by obtain ⟨b', o', e, hh⟩ := recAt (i := i - 1) ((ha.ch0 hch).ch0 h2) (by omega); cases e; exact hh
    have hfi : Audit.fits l i ↔ (Audit.rec l i).seq = (i : Int) ∧ (¬ ((i : Int) > 0) ∨ ¬ ((Audit.rec l i).at_ < (Audit.rec l (i - 1)).at_)) ∧ (Audit.rec l i).hash = Audit.hashed (Audit.rec l i) (Audit.before l i) := by unfold Audit.fits; constructor <;> (rintro ⟨a1, a2, a3⟩; exact ⟨a1, by omega, a3⟩)
    have hmi := hm _ (Audit.rec_mem hil)
    obtain ⟨hb1, _⟩ := Audit.before_len hm (i := i) (by omega)
    obtain ⟨m1, m2, m3, m4, m5, m6, m7, m8⟩ := hmi
    refine TC.skip ?_
    refine Thn.go ?_
    refine TC.seq ?_
    refine TC.block ?_
    refine TC.seq ?_
    refine TC.cut0 ([(0, .slice (some ⟨b1, o1, none⟩) l.length c), (4, .int .i64 (i : Int)), (49, .bool (decide (¬ Audit.fits l i)))]) (fun w3 => Ch [] w' w3) (fun K2 hK2 => ?_) (fun w3 hH => ?_)
    ·
      refine TC.regionQ (fun w4 => Ch [] w' w4) mixed0 (by kernel_rfl) (Ch.drew [] w') ?_
      refine TQ.via rfl rfl rfl rfl (fun w2 hw2 => TL.move rfl rfl (TL.done ⟨rfl, rfl⟩)) ?_
      refine TQ.via rfl rfl rfl rfl (fun w2 hw2 => TL.move rfl rfl (TL.done ⟨rfl, rfl⟩)) ?_
      refine TQ.via rfl rfl rfl rfl (fun w2 hw2 => TL.indexAddr (i) sl22 rfl rfl (by first | rfl | omega) (by omega) rfl (TL.done ⟨rfl, rfl⟩)) ?_
      refine TQ.via rfl rfl rfl rfl (fun w2 hw2 => TL.fieldAddr fd32k0 rfl rfl (TL.done ⟨rfl, rfl⟩)) ?_
      refine TQ.via rfl rfl rfl rfl (fun w2 hw2 => TL.load pl3 rfl ((show _ = some (Value.int .i64 (Audit.rec l i).seq) from hce _ hw2 0 (by decide))) rfl (TL.done ⟨rfl, rfl⟩)) ?_
      refine TQ.via rfl rfl rfl rfl (fun w2 hw2 => TL.move rfl rfl (TL.done ⟨rfl, rfl⟩)) ?_
      refine TQ.via rfl rfl rfl rfl (fun w2 hw2 => TL.neq rfl rfl rfl (TL.done ⟨rfl, rfl⟩)) ?_
      refine TQ.em (fun e17 => ?_) (fun e17 => ?_)
      ·
        refine TQ.via rfl rfl rfl rfl (fun w2 hw2 => TL.move rfl rfl (TL.done ⟨rfl, rfl⟩)) ?_
        refine TQ.guardNo (d := 18) rfl rfl rfl rfl rfl ?_
        refine TQ.guardNo (d := 18) rfl rfl rfl rfl rfl ?_
        refine TQ.guardNo (d := 18) rfl rfl rfl rfl rfl ?_
        refine TQ.guardUndef (d := 21) rfl rfl rfl rfl ?_
        refine TQ.guardUndef (d := 21) rfl rfl rfl rfl ?_
        refine TQ.guardUndef (d := 21) rfl rfl rfl rfl ?_
        refine TQ.guardUndef (d := 21) rfl rfl rfl rfl ?_
        refine TQ.guardUndef (d := 21) rfl rfl rfl rfl ?_
        refine TQ.guardUndef (d := 21) rfl rfl rfl rfl ?_
        refine TQ.guardUndef (d := 21) rfl rfl rfl rfl ?_
        refine TQ.guardUndef (d := 21) rfl rfl rfl rfl ?_
        refine TQ.guardUndef (d := 21) rfl rfl rfl rfl ?_
        refine TQ.guardUndef (d := 21) rfl rfl rfl rfl ?_
        refine TQ.guardUndef (d := 21) rfl rfl rfl rfl ?_
        refine TQ.guardUndef (d := 21) rfl rfl rfl rfl ?_
        refine TQ.guardNo (d := 18) rfl rfl rfl rfl rfl ?_
        refine TQ.via rfl rfl rfl rfl (fun w2 hw2 => TL.pickT rfl rfl rfl rfl (TL.done ⟨rfl, rfl⟩)) ?_
        refine TQ.via rfl rfl rfl rfl (fun w2 hw2 => TL.move rfl rfl (TL.done ⟨rfl, rfl⟩)) ?_
        refine TQ.guardNo (d := 36) rfl rfl rfl rfl rfl ?_
        refine TQ.guardNo (d := 36) rfl rfl rfl rfl rfl ?_
        refine TQ.guardNo (d := 36) rfl rfl rfl rfl rfl ?_
        refine TQ.guardNo (d := 36) rfl rfl rfl rfl rfl ?_
        refine TQ.guardNo (d := 36) rfl rfl rfl rfl rfl ?_
        refine TQ.guardNo (d := 36) rfl rfl rfl rfl rfl ?_
        refine TQ.guardNo (d := 36) rfl rfl rfl rfl rfl ?_
        refine TQ.guardNo (d := 36) rfl rfl rfl rfl rfl ?_
        refine TQ.guardNo (d := 36) rfl rfl rfl rfl rfl ?_
        refine TQ.guardNo (d := 36) rfl rfl rfl rfl rfl ?_
        refine TQ.guardNo (d := 36) rfl rfl rfl rfl rfl ?_
        refine TQ.guardNo (d := 36) rfl rfl rfl rfl rfl ?_
        refine TQ.via rfl rfl rfl rfl (fun w2 hw2 => TL.pickT rfl rfl rfl rfl (TL.done ⟨rfl, rfl⟩)) ?_
        refine TQ.done (fun w2 hw2 => ?_)
        exact hK2  _ _ (by repeat (first | exact trivial | refine ⟨rfl, ?_⟩ | refine ⟨congrArg (fun b => some (Value.bool b)) (by first | exact (decide_eq_true (by grind)).symm | exact (decide_eq_false (by grind)).symm | exact decide_eq_decide.2 (by grind) | exact decide_eq_true (by grind) | exact decide_eq_false (by grind) | (exfalso; grind)), ?_⟩)) (hw2)
      ·
        refine TQ.via rfl rfl rfl rfl (fun w2 hw2 => TL.move rfl rfl (TL.done ⟨rfl, rfl⟩)) ?_
        refine TQ.guardYes (d := 18) rfl rfl rfl ?_
        refine TQ.via rfl rfl rfl rfl (fun w2 hw2 => TL.move rfl rfl (TL.done ⟨rfl, rfl⟩)) ?_
        refine TQ.guardYes (d := 18) rfl rfl rfl ?_
        refine TQ.via rfl rfl rfl rfl (fun w2 hw2 => TL.gtr rfl rfl rfl (TL.done ⟨rfl, rfl⟩)) ?_
        refine TQ.em (fun e20 => ?_) (fun e20 => ?_)
        ·
          refine TQ.guardYes (d := 18) rfl rfl rfl ?_
          refine TQ.via rfl rfl rfl rfl (fun w2 hw2 => TL.move rfl rfl (TL.done ⟨rfl, rfl⟩)) ?_
          refine TQ.guardYes (d := 21) rfl rfl rfl ?_
          refine TQ.via rfl rfl rfl rfl (fun w2 hw2 => TL.move rfl rfl (TL.done ⟨rfl, rfl⟩)) ?_
          refine TQ.guardYes (d := 21) rfl rfl rfl ?_
          refine TQ.via rfl rfl rfl rfl (fun w2 hw2 => TL.move rfl rfl (TL.done ⟨rfl, rfl⟩)) ?_
          refine TQ.guardYes (d := 21) rfl rfl rfl ?_
          refine TQ.via rfl rfl rfl rfl (fun w2 hw2 => TL.indexAddr (i) sl22 rfl rfl (by first | rfl | omega) (by omega) rfl (TL.done ⟨rfl, rfl⟩)) ?_
          refine TQ.guardYes (d := 21) rfl rfl rfl ?_
          refine TQ.via rfl rfl rfl rfl (fun w2 hw2 => TL.fieldAddr fd32k1 rfl rfl (TL.done ⟨rfl, rfl⟩)) ?_
          refine TQ.guardYes (d := 21) rfl rfl rfl ?_
          refine TQ.via rfl rfl rfl rfl (fun w2 hw2 => TL.load pl3 rfl ((show _ = some (Value.int .i64 (Audit.rec l i).at_) from hce _ hw2 1 (by decide))) rfl (TL.done ⟨rfl, rfl⟩)) ?_
          refine TQ.guardYes (d := 21) rfl rfl rfl ?_
          refine TQ.via rfl rfl rfl rfl (fun w2 hw2 => TL.move rfl rfl (TL.done ⟨rfl, rfl⟩)) ?_
          refine TQ.guardYes (d := 21) rfl rfl rfl ?_
          refine TQ.via rfl rfl rfl rfl (fun w2 hw2 => TL.move rfl rfl (TL.done ⟨rfl, rfl⟩)) ?_
          refine TQ.guardYes (d := 21) rfl rfl rfl ?_
          refine TQ.via rfl rfl rfl rfl (fun w2 hw2 => TL.sub_i64 rfl rfl (by omega) (by omega) rfl (TL.done ⟨rfl, rfl⟩)) ?_
          refine TQ.guardYes (d := 21) rfl rfl rfl ?_
          refine TQ.via rfl rfl rfl rfl (fun w2 hw2 => TL.indexAddr (i - 1) sl22 rfl rfl (by first | rfl | omega) (by omega) rfl (TL.done ⟨rfl, rfl⟩)) ?_
          refine TQ.guardYes (d := 21) rfl rfl rfl ?_
          refine TQ.via rfl rfl rfl rfl (fun w2 hw2 => TL.fieldAddr fd32k1 rfl rfl (TL.done ⟨rfl, rfl⟩)) ?_
          refine TQ.guardYes (d := 21) rfl rfl rfl ?_
          refine TQ.via rfl rfl rfl rfl (fun w2 hw2 => TL.load pl3 rfl ((show _ = some (Value.int .i64 (Audit.rec l (i - 1)).at_) from hce2 (by omega) _ hw2 1 (by decide))) rfl (TL.done ⟨rfl, rfl⟩)) ?_
          refine TQ.guardYes (d := 21) rfl rfl rfl ?_
          refine TQ.via rfl rfl rfl rfl (fun w2 hw2 => TL.lss rfl rfl rfl (TL.done ⟨rfl, rfl⟩)) ?_
          refine TQ.em (fun e33 => ?_) (fun e33 => ?_)
          ·
            refine TQ.guardYes (d := 18) rfl rfl rfl ?_
            refine TQ.via rfl rfl rfl rfl (fun w2 hw2 => TL.pickT rfl rfl rfl rfl (TL.done ⟨rfl, rfl⟩)) ?_
            refine TQ.via rfl rfl rfl rfl (fun w2 hw2 => TL.pickF rfl rfl rfl rfl (TL.done ⟨rfl, rfl⟩)) ?_
            refine TQ.via rfl rfl rfl rfl (fun w2 hw2 => TL.move rfl rfl (TL.done ⟨rfl, rfl⟩)) ?_
            refine TQ.guardNo (d := 36) rfl rfl rfl rfl rfl ?_
            refine TQ.guardNo (d := 36) rfl rfl rfl rfl rfl ?_
            refine TQ.guardNo (d := 36) rfl rfl rfl rfl rfl ?_
            refine TQ.guardNo (d := 36) rfl rfl rfl rfl rfl ?_
            refine TQ.guardNo (d := 36) rfl rfl rfl rfl rfl ?_
            refine TQ.guardNo (d := 36) rfl rfl rfl rfl rfl ?_
            refine TQ.guardNo (d := 36) rfl rfl rfl rfl rfl ?_
            refine TQ.guardNo (d := 36) rfl rfl rfl rfl rfl ?_
            refine TQ.guardNo (d := 36) rfl rfl rfl rfl rfl ?_
            refine TQ.guardNo (d := 36) rfl rfl rfl rfl rfl ?_
            refine TQ.guardNo (d := 36) rfl rfl rfl rfl rfl ?_
            refine TQ.guardNo (d := 36) rfl rfl rfl rfl rfl ?_
            refine TQ.via rfl rfl rfl rfl (fun w2 hw2 => TL.pickT rfl rfl rfl rfl (TL.done ⟨rfl, rfl⟩)) ?_
            refine TQ.done (fun w2 hw2 => ?_)
            exact hK2  _ _ (by repeat (first | exact trivial | refine ⟨rfl, ?_⟩ | refine ⟨congrArg (fun b => some (Value.bool b)) (by first | exact (decide_eq_true (by grind)).symm | exact (decide_eq_false (by grind)).symm | exact decide_eq_decide.2 (by grind) | exact decide_eq_true (by grind) | exact decide_eq_false (by grind) | (exfalso; grind)), ?_⟩)) (hw2)
          ·
            refine TQ.guardYes (d := 18) rfl rfl rfl ?_
            refine TQ.via rfl rfl rfl rfl (fun w2 hw2 => TL.pickT rfl rfl rfl rfl (TL.done ⟨rfl, rfl⟩)) ?_
            refine TQ.via rfl rfl rfl rfl (fun w2 hw2 => TL.pickF rfl rfl rfl rfl (TL.done ⟨rfl, rfl⟩)) ?_
            refine TQ.via rfl rfl rfl rfl (fun w2 hw2 => TL.move rfl rfl (TL.done ⟨rfl, rfl⟩)) ?_
            refine TQ.guardYes (d := 36) rfl rfl rfl ?_
            refine TQ.via rfl rfl rfl rfl (fun w2 hw2 => TL.move rfl rfl (TL.done ⟨rfl, rfl⟩)) ?_
            refine TQ.guardYes (d := 36) rfl rfl rfl ?_
            refine TQ.via rfl rfl rfl rfl (fun w2 hw2 => TL.move rfl rfl (TL.done ⟨rfl, rfl⟩)) ?_
            refine TQ.guardYes (d := 36) rfl rfl rfl ?_
            refine TQ.via rfl rfl rfl rfl (fun w2 hw2 => TL.indexAddr (i) sl22 rfl rfl (by first | rfl | omega) (by omega) rfl (TL.done ⟨rfl, rfl⟩)) ?_
            refine TQ.guardYes (d := 36) rfl rfl rfl ?_
            refine TQ.via rfl rfl rfl rfl (fun w2 hw2 => TL.fieldAddr fd32k5 rfl rfl (TL.done ⟨rfl, rfl⟩)) ?_
            refine TQ.guardYes (d := 36) rfl rfl rfl ?_
            refine TQ.via rfl rfl rfl rfl (fun w2 hw2 => TL.load pl9 rfl ((show _ = some (str (Audit.rec l i).hash) from hce _ hw2 5 (by decide))) rfl (TL.done ⟨rfl, rfl⟩)) ?_
            refine TQ.guardYes (d := 36) rfl rfl rfl ?_
            refine TQ.via rfl rfl rfl rfl (fun w2 hw2 => TL.move rfl rfl (TL.done ⟨rfl, rfl⟩)) ?_
            refine TQ.guardYes (d := 36) rfl rfl rfl ?_
            refine TQ.via rfl rfl rfl rfl (fun w2 hw2 => TL.move rfl rfl (TL.done ⟨rfl, rfl⟩)) ?_
            refine TQ.guardYes (d := 36) rfl rfl rfl ?_
            refine TQ.via rfl rfl rfl rfl (fun w2 hw2 => TL.indexAddr (i) sl22 rfl rfl (by first | rfl | omega) (by omega) rfl (TL.done ⟨rfl, rfl⟩)) ?_
            refine TQ.guardYes (d := 36) rfl rfl rfl ?_
            refine TQ.via rfl rfl rfl rfl (fun w2 hw2 => TL.loadAgg (cl (Audit.rec l i)) ag32 rfl rfl (fun j hj => hce _ hw2 j hj) rfl (TL.done ⟨rfl, rfl⟩)) ?_
            refine TQ.guardYes (d := 36) rfl rfl rfl ?_
            refine TQ.via rfl rfl rfl rfl (fun w2 hw2 => TL.move rfl rfl (TL.done ⟨rfl, rfl⟩)) ?_
            refine TQ.guardYes (d := 36) rfl rfl rfl ?_
            refine TQ.call (str (Audit.hashed (Audit.rec l i) (Audit.before l i))) can30 rfl rfl (fun w2 hw2 => (fn30 (Audit.rec l i) (Audit.before l i) (by omega) (by omega) (by omega) w2).mono (fun _ _ ⟨q1, q2⟩ => ⟨q1, hw2.trans0 q2⟩)) ?_
            refine TQ.guardYes (d := 36) rfl rfl rfl ?_
            refine TQ.via rfl rfl rfl rfl (fun w2 hw2 => TL.neqStr rfl rfl rfl (TL.done ⟨rfl, rfl⟩)) ?_
            refine TQ.via rfl rfl rfl rfl (fun w2 hw2 => TL.pickF rfl rfl rfl rfl (TL.done ⟨rfl, rfl⟩)) ?_
            refine TQ.done (fun w2 hw2 => ?_)
            exact hK2  _ _ (by repeat (first | exact trivial | refine ⟨rfl, ?_⟩ | refine ⟨congrArg (fun b => some (Value.bool b)) (by first | exact (decide_eq_true (by grind)).symm | exact (decide_eq_false (by grind)).symm | exact decide_eq_decide.2 (by grind) | exact decide_eq_true (by grind) | exact decide_eq_false (by grind) | (exfalso; grind)), ?_⟩)) (hw2)
        ·
          refine TQ.guardYes (d := 18) rfl rfl rfl ?_
          refine TQ.via rfl rfl rfl rfl (fun w2 hw2 => TL.move rfl rfl (TL.done ⟨rfl, rfl⟩)) ?_
          refine TQ.guardNo (d := 21) rfl rfl rfl rfl rfl ?_
          refine TQ.guardNo (d := 21) rfl rfl rfl rfl rfl ?_
          refine TQ.guardNo (d := 21) rfl rfl rfl rfl rfl ?_
          refine TQ.guardNo (d := 21) rfl rfl rfl rfl rfl ?_
          refine TQ.guardNo (d := 21) rfl rfl rfl rfl rfl ?_
          refine TQ.guardNo (d := 21) rfl rfl rfl rfl rfl ?_
          refine TQ.guardNo (d := 21) rfl rfl rfl rfl rfl ?_
          refine TQ.guardNo (d := 21) rfl rfl rfl rfl rfl ?_
          refine TQ.guardNo (d := 21) rfl rfl rfl rfl rfl ?_
          refine TQ.guardNo (d := 21) rfl rfl rfl rfl rfl ?_
          refine TQ.guardNo (d := 21) rfl rfl rfl rfl rfl ?_
          refine TQ.guardNo (d := 21) rfl rfl rfl rfl rfl ?_
          refine TQ.guardYes (d := 18) rfl rfl rfl ?_
          refine TQ.via rfl rfl rfl rfl (fun w2 hw2 => TL.pickF rfl rfl rfl rfl (TL.done ⟨rfl, rfl⟩)) ?_
          refine TQ.via rfl rfl rfl rfl (fun w2 hw2 => TL.pickF rfl rfl rfl rfl (TL.done ⟨rfl, rfl⟩)) ?_
          refine TQ.via rfl rfl rfl rfl (fun w2 hw2 => TL.move rfl rfl (TL.done ⟨rfl, rfl⟩)) ?_
          refine TQ.guardYes (d := 36) rfl rfl rfl ?_
          refine TQ.via rfl rfl rfl rfl (fun w2 hw2 => TL.move rfl rfl (TL.done ⟨rfl, rfl⟩)) ?_
          refine TQ.guardYes (d := 36) rfl rfl rfl ?_
          refine TQ.via rfl rfl rfl rfl (fun w2 hw2 => TL.move rfl rfl (TL.done ⟨rfl, rfl⟩)) ?_
          refine TQ.guardYes (d := 36) rfl rfl rfl ?_
          refine TQ.via rfl rfl rfl rfl (fun w2 hw2 => TL.indexAddr (i) sl22 rfl rfl (by first | rfl | omega) (by omega) rfl (TL.done ⟨rfl, rfl⟩)) ?_
          refine TQ.guardYes (d := 36) rfl rfl rfl ?_
          refine TQ.via rfl rfl rfl rfl (fun w2 hw2 => TL.fieldAddr fd32k5 rfl rfl (TL.done ⟨rfl, rfl⟩)) ?_
          refine TQ.guardYes (d := 36) rfl rfl rfl ?_
          refine TQ.via rfl rfl rfl rfl (fun w2 hw2 => TL.load pl9 rfl ((show _ = some (str (Audit.rec l i).hash) from hce _ hw2 5 (by decide))) rfl (TL.done ⟨rfl, rfl⟩)) ?_
          refine TQ.guardYes (d := 36) rfl rfl rfl ?_
          refine TQ.via rfl rfl rfl rfl (fun w2 hw2 => TL.move rfl rfl (TL.done ⟨rfl, rfl⟩)) ?_
          refine TQ.guardYes (d := 36) rfl rfl rfl ?_
          refine TQ.via rfl rfl rfl rfl (fun w2 hw2 => TL.move rfl rfl (TL.done ⟨rfl, rfl⟩)) ?_
          refine TQ.guardYes (d := 36) rfl rfl rfl ?_
          refine TQ.via rfl rfl rfl rfl (fun w2 hw2 => TL.indexAddr (i) sl22 rfl rfl (by first | rfl | omega) (by omega) rfl (TL.done ⟨rfl, rfl⟩)) ?_
          refine TQ.guardYes (d := 36) rfl rfl rfl ?_
          refine TQ.via rfl rfl rfl rfl (fun w2 hw2 => TL.loadAgg (cl (Audit.rec l i)) ag32 rfl rfl (fun j hj => hce _ hw2 j hj) rfl (TL.done ⟨rfl, rfl⟩)) ?_
          refine TQ.guardYes (d := 36) rfl rfl rfl ?_
          refine TQ.via rfl rfl rfl rfl (fun w2 hw2 => TL.move rfl rfl (TL.done ⟨rfl, rfl⟩)) ?_
          refine TQ.guardYes (d := 36) rfl rfl rfl ?_
          refine TQ.call (str (Audit.hashed (Audit.rec l i) (Audit.before l i))) can30 rfl rfl (fun w2 hw2 => (fn30 (Audit.rec l i) (Audit.before l i) (by omega) (by omega) (by omega) w2).mono (fun _ _ ⟨q1, q2⟩ => ⟨q1, hw2.trans0 q2⟩)) ?_
          refine TQ.guardYes (d := 36) rfl rfl rfl ?_
          refine TQ.via rfl rfl rfl rfl (fun w2 hw2 => TL.neqStr rfl rfl rfl (TL.done ⟨rfl, rfl⟩)) ?_
          refine TQ.via rfl rfl rfl rfl (fun w2 hw2 => TL.pickF rfl rfl rfl rfl (TL.done ⟨rfl, rfl⟩)) ?_
          refine TQ.done (fun w2 hw2 => ?_)
          exact hK2  _ _ (by repeat (first | exact trivial | refine ⟨rfl, ?_⟩ | refine ⟨congrArg (fun b => some (Value.bool b)) (by first | exact (decide_eq_true (by grind)).symm | exact (decide_eq_false (by grind)).symm | exact decide_eq_decide.2 (by grind) | exact decide_eq_true (by grind) | exact decide_eq_false (by grind) | (exfalso; grind)), ?_⟩)) (hw2)
    ·
      refine TC.condP rfl (fun h6 => ?_) (fun h6 => ?_)
      ·
        refine TC.seq ?_
        refine TC.region ?_
        refine TL.move rfl rfl ?_
        refine TL.assign rfl rfl ?_
        refine TL.done ?_
        refine Thn.go ?_
        refine TC.ret ?_
        refine Thn.ret ?_
        refine Blk.ret ?_
        refine Thn.ret ?_
        refine Lp.ret ?_
        refine Blk.ret ?_
        refine Thn.ret ?_
        refine Ends.ret [2] rfl rfl ?_
        exact ⟨by rw [Audit.first_at hil h6 hg]; rfl, hch.trans0 hH⟩
      ·
        refine TC.skip ?_
        refine Thn.go ?_
        refine TC.region ?_
        refine TL.move rfl rfl ?_
        refine TL.move rfl rfl ?_
        refine TL.indexAddr (i) sl22 rfl rfl (by first | rfl | omega) (by omega) rfl ?_
        refine TL.fieldAddr fd32k5 rfl rfl ?_
        refine TL.load pl9 rfl ((show _ = some (str (Audit.rec l i).hash) from hce _ hH 5 (by decide))) rfl ?_
        refine TL.assign rfl rfl ?_
        refine TL.top (v' := str (Audit.before l (i + 1))) (by rw [Audit.before_next]) ?_
        refine TL.done ?_
        refine Blk.go ?_
        refine Thn.go ?_
        refine TC.region ?_
        refine TL.move rfl rfl ?_
        refine TL.add_i64 rfl rfl (by omega) (by omega) rfl ?_
        refine TL.assign rfl rfl ?_
        refine TL.done ?_
        refine Lp.go (i + 1) (by repeat (first | exact trivial | refine ⟨rfl, ?_⟩)) ?_ (by first | omega | (dsimp only; omega))
        refine ⟨by omega, fun j hj => ?_, hch.trans0 hH⟩
        rcases Nat.lt_or_ge j i with h | h
        · exact hg j h
        · rw [show j = i by omega]; exact Decidable.not_not.1 h6
  ·
    have hil : i = l.length := by omega
    subst hil
    refine TC.exit ?_
    refine Thn.exit ?_
    refine Lp.exit ?_
    refine Blk.hit ?_
    refine Thn.go ?_
    refine TC.seq ?_
    refine TC.region ?_
    refine TL.assign rfl rfl ?_
    refine TL.done ?_
    refine Thn.go ?_
    refine TC.ret ?_
    refine Ends.ret [2] rfl rfl ?_
    exact ⟨by rw [Audit.first_all hg]; rfl, hch⟩

theorem fn26 (a : Value) (l : List Audit.Record) (hl : l.length ≤ 100000) (w : World) (ha : Rd w a 6 l.length (l.flatMap cl)) : Rets Try.prog 26 #[a] w (fun v w' => Own w' w.heap.size 32 6 v l.length (l.flatMap cl) ∧ Ch [] w w') := by
  obtain ⟨ad, c, rfl, hnil⟩ := ha.shape
  have hmm : maxLen = 9223372036854775807 := rfl
  refine Rets.of (n := 8) (vs := [_]) Try.func26 rfl rfl rfl ?_
  refine TC.seq ?_
  refine TC.region ?_
  refine TL.assign rfl rfl ?_
  refine TL.done ?_
  refine Thn.go ?_
  refine TC.seq ?_
  refine TC.seq ?_
  refine TC.region ?_
  refine TL.move rfl rfl ?_
  refine TL.eqlNil Try.underlying22 rfl rfl rfl ?_
  refine TL.done ?_
  refine Thn.go ?_
  refine TC.condP rfl (fun h1 => ?_) (fun h1 => ?_)
  ·
    have h0 : l = [] := List.eq_nil_of_length_eq_zero (hnil h1)
    subst h0
    refine TC.seq ?_
    refine TC.region ?_
    refine TL.assign rfl rfl ?_
    refine TL.done ?_
    refine Thn.go ?_
    refine TC.ret ?_
    refine Thn.ret ?_
    refine Ends.ret [2] rfl rfl ?_
    exact ⟨World.ownsRow_nil _ _ _ _, Ch.refl _ _⟩
  ·
    refine TC.skip ?_
    refine Thn.go ?_
    refine TC.seq ?_
    refine TC.region ?_
    refine TL.buildSlice [] sl22 rfl rfl rfl (by decide) (by first | simp [Value.cells]; done | simp [Value.cells, cl_len]; done) rfl (fun w5 hb5 hc5 hz5 => ?_)
    have ho5 : Own w5 w.heap.size 32 6 (.slice (some ⟨w.heap.size, 0, none⟩) 0 0) 0 [] := Own.ofHas (cs := []) hb5 (Nat.le_refl _) (by simp) (by simp)
    refine TL.move rfl rfl ?_
    refine TL.append sl22 rfl rfl rfl (ho5) (News.ofRd Try.underlying22 (ha.ch0 hc5) (rows_one l)) (by omega) (by omega) (by omega) (fun v7 w7 hv7 hc7 _ => ?_)
    refine TL.assign rfl rfl ?_
    refine TL.done ?_
    refine Thn.go ?_
    refine TC.ret ?_
    refine Ends.ret [2] rfl rfl ?_
    exact ⟨by rw [Nat.zero_add] at hv7; exact hv7, ho5.thenCh hc5 hc7⟩

