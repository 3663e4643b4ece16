/-
  Walks through the given program: each theorem fnN says what the call of function N of the translation hands back, for all arguments that its premises describe, and that nothing that was there has turned.
-/
import Derived.Test.YtcoaophfojkldaaS5
import Derived.Test.YtcoaophfojkldaaSeal
namespace Go.Proofs.Ytcoaophfojkldaa
open Go.Lane
theorem can37 : Callable Try.prog 37 := ⟨Try.f37, Try.func37, by kernel_rfl, rfl⟩

theorem fn22 (a : Value) (l : List UInt8) (hl : l.length ≤ 1000000000000) (w : World) (ha : Rd w a 1 l.length (l.map u8)) : Rets Try.prog 22 #[a] w (fun v w' => v = .agg ((Sha.sum l).map u8).toArray ∧ Ch [] w w') := by
  obtain ⟨ad, c, rfl, _⟩ := ha.shape
  have hsl := Sha.sum_len l
  refine Rets.of (n := 6) (vs := [_]) Try.func22 rfl rfl rfl ?_
  refine TC.seq ?_
  refine TC.region ?_
  refine TL.alloc ze48 rfl (fun w2 hb2 hc2 hz2 => ?_)
  refine TL.done ?_
  refine Thn.go ?_
  refine TC.seq ?_
  refine TC.region ?_
  refine TL.move rfl rfl ?_
  refine TL.buildSlice [.tmp 3] sl79 rfl rfl rfl (by decide) (by first | simp [Value.cells]; done | simp [Value.cells, cl_len]; done) rfl (fun w4 hb4 hc4 hz4 => ?_)
  refine TL.call can37 rfl rfl (fn37 _ [(.slice ad l.length c, l)] l (by simp) hl (by simp) w4 (Rd.ofFlat (sz := 1) (m := 1) hb4 (by simp [Value.cells]) rfl (by decide)) (by intro p hp; simp at hp; subst hp; exact (ha.ch0 hc2).ch0 hc4)) (fun v5 w5 hr5 => ?_)
  obtain ⟨rfl, hc5⟩ := hr5
  refine TL.store sz48 rfl rfl (by simpa [Value.cells] using hsl) ((hb2.ch0 hc4).ch0 hc5) (by simp [Value.cells]) (by simpa [Value.cells] using one_u8 (Sha.sum l)) (.inl rfl) (fun ws1 hbs1 hcs1 hzs1 => ?_)
  replace hbs1 : Has ws1 w.heap.size ((Sha.sum l).map u8).toArray 48 (0, 0) := hbs1.setAll (by simp [Value.cells, hsl])
  refine TL.done ?_
  refine Thn.go ?_
  refine TC.ret ?_
  refine Ends.cell ((Sha.sum l).map u8) (.inl rfl) rfl ag48 rfl (by simpa using hsl) (fun j _ => by rw [hbs1.cell, Nat.zero_add, List.getElem?_toArray]) ?_
  exact ⟨rfl, ((hc2.trans0 hc4).trans0 hc5).then1 hcs1 (Nat.le_refl _)⟩

