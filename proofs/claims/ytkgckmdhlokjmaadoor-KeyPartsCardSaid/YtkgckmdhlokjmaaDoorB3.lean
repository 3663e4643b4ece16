/-
  Walks through the given program: each theorem fnN says what the call of function N of the translation hands back, for all arguments that its premises describe, and that nothing that was there has turned.
-/
import Derived.Test.YtkgckmdhlokjmaaDoorB2
namespace Go.Proofs.YtkgckmdhlokjmaaDoor
open Go.Lane
open Go.Key
open Go.RowKit (Below)

/-- The library's own variable reads as an int: what its searches ask of the world. -/
def Sh (w : World) : Prop := ∃ m : Int, w.cell? ⟨0, 0, none⟩ = some (.int .i64 m)
theorem Sh.ch {w w' : World} {S : List Nat} (h : Sh w) (hc : Ch S w w') (h0 : 0 ∉ S) : Sh w' := by
  obtain ⟨m, hm⟩ := h
  have hlt : 0 < w.heap.size := by
    rcases Nat.eq_zero_or_pos w.heap.size with h | h
    · unfold World.cell? at hm
      rw [Array.getElem?_eq_none (by show w.heap.size ≤ 0; omega)] at hm
      simp at hm
    · exact h
  refine ⟨m, ?_⟩
  have := hc.block 0 hlt h0
  unfold World.cell? at hm ⊢
  rw [this]; exact hm
theorem Sh.ch0 {w w' : World} (h : Sh w) (hc : Ch [] w w') : Sh w' := h.ch hc (by simp)
theorem cl_one (p : Part) : ∀ u ∈ cl p, u.oneCell' = true := by simp [cl, Value.oneCell']
theorem fn44 (s : List UInt8) (hs : s.length ≤ 100000) (w : World) (h : Sh w) : Rets Tryd.prog 44 #[str s, str [0]] w (fun r w' => r = .tuple #[str (Go.Lib.cut s [0]).1, str (Go.Lib.cut s [0]).2.1, .bool (Go.Lib.cut s [0]).2.2] ∧ Ch [] w w') := by
  obtain ⟨m, hm⟩ := h
  refine (Tryd.strings_Cut ⟨s.toArray⟩ ⟨#[0]⟩ m w (by show s.toArray.size < _; simp; omega) hm).mono fun e w' ⟨he, n, hn⟩ => ⟨_, he, rfl, ?_⟩
  rw [hn]; exact ⟨rfl, rfl, rfl, Nat.le_refl _, fun _ _ _ => rfl⟩
theorem fn25 (s : List UInt8) (hs : s.length ≤ 100000) (w : World) (h : Sh w) : Rets Tryd.prog 25 #[str s, str [0], str [0, 255]] w (fun r w' => r = str (esc s) ∧ Ch [] w w') := by
  obtain ⟨m, hm⟩ := h
  have hc := Go.Lib.countB_le ⟨#[0]⟩ (by decide) s.length ⟨s.toArray⟩ (by show s.toArray.size ≤ _; simp)
  have hz : (ByteArray.mk s.toArray).size = s.length := by show s.toArray.size = _; simp
  rw [hz] at hc
  refine (Tryd.strings_ReplaceAll ⟨s.toArray⟩ ⟨#[0]⟩ ⟨#[0, 255]⟩ m w (by rw [hz]; omega) hm (by decide) (by rw [hz]; show s.length + _ * 2 ≤ _; omega)).mono fun e w' ⟨he, hb⟩ => ⟨_, he, ?_, Ch.ofBelow hb⟩
  show Value.string ⟨(Go.Lib.replaceAll s [0] [0, 255]).toArray⟩ = _
  rw [repl_all]
def numP (a : Int) : Part := ⟨1, a, []⟩
def wordP (s : List UInt8) : Part := ⟨2, 0, s⟩

theorem fn13 (a : Int) (w : World) : Rets Tryd.prog 13 #[.int .i64 a] w (fun r w' => r = .agg (cl (numP a)).toArray ∧ Ch [] w w') := by
  refine Rets.of (n := 5) (vs := [_]) Tryd.func13 rfl rfl rfl ?_
  refine TC.seq ?_
  refine TC.region ?_
  refine TL.alloc ze29 rfl (fun w2 hb2 hc2 hz2 => ?_)
  refine TL.done ?_
  refine Thn.go ?_
  refine TC.seq ?_
  refine TC.region ?_
  refine TL.move rfl rfl ?_
  refine TL.buildRec [0, 1] [.const (.int .u8 1), .tmp 3] (cl (numP a)) rfl rfl (by kernel_rfl) rfl ?_
  refine TL.store sz29 rfl rfl rfl hb2 (by simp [Value.cells]) (by simpa [Value.cells] using cl_one (numP a)) (.inl rfl) (fun ws1 hbs1 hcs1 hzs1 => ?_)
  replace hbs1 : Has ws1 w.heap.size (cl (numP a)).toArray 29 (0, 0) := hbs1.setAll rfl
  refine TL.done ?_
  refine Thn.go ?_
  refine TC.ret ?_
  refine Ends.cell (cl (numP a)) (.inl rfl) rfl ag29 rfl rfl (fun j _ => by rw [hbs1.cell, Nat.zero_add, List.getElem?_toArray]) ?_
  exact ⟨rfl, hc2.then1 hcs1 (Nat.le_refl _)⟩

theorem fn14 (s : List UInt8) (w : World) : Rets Tryd.prog 14 #[str s] w (fun r w' => r = .agg (cl (wordP s)).toArray ∧ Ch [] w w') := by
  refine Rets.of (n := 5) (vs := [_]) Tryd.func14 rfl rfl rfl ?_
  refine TC.seq ?_
  refine TC.region ?_
  refine TL.alloc ze29 rfl (fun w2 hb2 hc2 hz2 => ?_)
  refine TL.done ?_
  refine Thn.go ?_
  refine TC.seq ?_
  refine TC.region ?_
  refine TL.move rfl rfl ?_
  refine TL.buildRec [0, 2] [.const (.int .u8 2), .tmp 3] (cl (wordP s)) rfl rfl (by kernel_rfl) rfl ?_
  refine TL.store sz29 rfl rfl rfl hb2 (by simp [Value.cells]) (by simpa [Value.cells] using cl_one (wordP s)) (.inl rfl) (fun ws1 hbs1 hcs1 hzs1 => ?_)
  replace hbs1 : Has ws1 w.heap.size (cl (wordP s)).toArray 29 (0, 0) := hbs1.setAll rfl
  refine TL.done ?_
  refine Thn.go ?_
  refine TC.ret ?_
  refine Ends.cell (cl (wordP s)) (.inl rfl) rfl ag29 rfl rfl (fun j _ => by rw [hbs1.cell, Nat.zero_add, List.getElem?_toArray]) ?_
  exact ⟨rfl, hc2.then1 hcs1 (Nat.le_refl _)⟩

