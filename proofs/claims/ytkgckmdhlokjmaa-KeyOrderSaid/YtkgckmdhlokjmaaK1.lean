/-
  Walks through the given program: each theorem fnN says what the call of function N of the translation hands back, for all arguments that its premises describe, and that nothing that was there has turned.
-/
import Derived.Test.YtkgckmdhlokjmaaProg
import Derived.Test.YtkgckmdhlokjmaaLaneI
import Derived.Test.YtkgckmdhlokjmaaOrd
import Derived.KernelRfl
namespace Go.Proofs.Ytkgckmdhlokjmaa
open Go.Lane
open Go.Key
theorem mixed0 : Try.prog.follows .mixedOrders = true := by kernel_rfl
theorem ag30 : AggT Try.prog 30 3 := ⟨⟨_, Try.underlying30, rfl⟩, by kernel_rfl⟩
theorem can8 : Callable Try.prog 8 := ⟨Try.f8, Try.func8, by kernel_rfl, rfl⟩
theorem can9 : Callable Try.prog 9 := ⟨Try.f9, Try.func9, by kernel_rfl, rfl⟩
theorem can10 : Callable Try.prog 10 := ⟨Try.f10, Try.func10, by kernel_rfl, rfl⟩
theorem can11 : Callable Try.prog 11 := ⟨Try.f11, Try.func11, by kernel_rfl, rfl⟩
theorem can12 : Callable Try.prog 12 := ⟨Try.f12, Try.func12, by kernel_rfl, rfl⟩
theorem can13 : Callable Try.prog 13 := ⟨Try.f13, Try.func13, by kernel_rfl, rfl⟩
theorem can14 : Callable Try.prog 14 := ⟨Try.f14, Try.func14, by kernel_rfl, rfl⟩
theorem can15 : Callable Try.prog 15 := ⟨Try.f15, Try.func15, by kernel_rfl, rfl⟩
theorem can16 : Callable Try.prog 16 := ⟨Try.f16, Try.func16, by kernel_rfl, rfl⟩
theorem can17 : Callable Try.prog 17 := ⟨Try.f17, Try.func17, by kernel_rfl, rfl⟩
theorem fd30k0 : FieldT Try.prog 30 0 5 0 1 := ⟨_, _, Try.underlying30, rfl, rfl, rfl, by kernel_rfl, by decide⟩
theorem fd30k1 : FieldT Try.prog 30 1 2 1 1 := ⟨_, _, Try.underlying30, rfl, rfl, rfl, by kernel_rfl, by decide⟩
theorem fd30k2 : FieldT Try.prog 30 2 9 2 1 := ⟨_, _, Try.underlying30, rfl, rfl, rfl, by kernel_rfl, by decide⟩
theorem pl2 : Plain Try.prog 2 := ⟨_, Try.underlying2, rfl⟩
theorem pl3 : Plain Try.prog 3 := ⟨_, Try.underlying3, rfl⟩
theorem pl5 : Plain Try.prog 5 := ⟨_, Try.underlying5, rfl⟩
theorem pl9 : Plain Try.prog 9 := ⟨_, Try.underlying9, rfl⟩
theorem sl22 : SliceT Try.prog 22 30 3 32 (.agg #[.int .u8 0, .int .i64 0, .string ⟨#[]⟩]) := SliceT.mk' Try.underlying22 (by kernel_rfl) rfl rfl
theorem sl27 : SliceT Try.prog 27 5 1 1 (.int .u8 0) := SliceT.mk' Try.underlying27 (by kernel_rfl) rfl rfl
theorem sl37 : SliceT Try.prog 37 3 1 8 (.int .i64 0) := SliceT.mk' Try.underlying37 (by kernel_rfl) rfl rfl
theorem sz30 : (Try.prog.info? 30).map (·.size) = some 3 := by kernel_rfl
theorem sz5 : (Try.prog.info? 5).map (·.size) = some 1 := by kernel_rfl
theorem ze30 : ZeroT Try.prog 30 (.agg #[.int .u8 0, .int .i64 0, .string ⟨#[]⟩]) := by unfold ZeroT; kernel_rfl
theorem gd30 : Try.prog.eqGuardType Try.prog.depth 30 = false := by kernel_rfl

/-- A part's cells. -/
def cl (p : Part) : List Value := [u8 p.kind, .int .i64 p.int, str p.text]
theorem cl_len (p : Part) : (cl p).length = 3 := rfl
theorem eqPart (p q : Part) (w : World) : (Op.equalIn 10000 30 (.agg (cl p).toArray) (.agg (cl q).toArray)).run Try.prog w = .ok (decide (p = q)) w := by
  have ht : Try.prog.underlying 30 = some (.struct (Try.prog.fieldsOf 30)) := by rw [Program.fieldsOf, Try.underlying30]
  rw [run_equalIn_struct w 9999 30 _ _ ht (by kernel_rfl)]
  simp only [Program.fieldsOf, Try.underlying30]
  have e1 := run_equalIn_int (P := Try.prog) w 9998 5 .u8 .u8 (p.kind.toNat : Int) (q.kind.toNat : Int) Try.underlying5
  have e2 := run_equalIn_int (P := Try.prog) w 9998 2 .i64 .i64 p.int q.int Try.underlying2
  have e3 := run_equalIn_string (P := Try.prog) w 9998 9 ⟨p.text.toArray⟩ ⟨q.text.toArray⟩ Try.underlying9
  refine (eqFields_cons (a := u8 p.kind) (b := u8 q.kind) (by decide) pl5 rfl rfl e1).trans ?_
  rw [eqFields_cons (a := .int .i64 p.int) (b := .int .i64 q.int) (by decide) pl2 rfl rfl e2]
  rw [eqFields_cons (a := str p.text) (b := str q.text) (by decide) pl9 rfl rfl e3]
  obtain ⟨k, i, t⟩ := p
  obtain ⟨k', i', t'⟩ := q
  have hk : ((k.toNat : Int) == (k'.toNat : Int)) = decide (k = k') := by
    by_cases h : k = k'
    · simp [h]
    · have : ¬ (k.toNat : Int) = (k'.toNat : Int) := fun e => h (kind_eq.1 e)
      simp [h, this]
  have ht : ((⟨t.toArray⟩ : ByteArray).toList == (⟨t'.toArray⟩ : ByteArray).toList) = decide (t = t') := by
    rw [ByteArray.toList_eq, ByteArray.toList_eq]
    by_cases h : t = t' <;> simp [h]
  simp only [hk, ht, Part.mk.injEq]
  by_cases h1 : k = k' <;> by_cases h2 : i = i' <;> by_cases h3 : t = t' <;> simp [h1, h2, h3, Op.eqFields]

theorem fn15 (x : UInt8) (w : World) : Rets Try.prog 15 #[u8 x] w (fun v w' => v = .bool false ∧ w' = w) := by
  refine Rets.of (n := 6) (vs := [_]) Try.func15 rfl rfl rfl ?_
  refine TC.seq ?_
  refine TC.region ?_
  refine TL.assign rfl rfl ?_
  refine TL.done ?_
  refine Thn.go ?_
  refine TC.seq ?_
  refine TC.region ?_
  refine TL.move rfl rfl ?_
  refine TL.move rfl rfl ?_
  refine TL.neq rfl rfl rfl ?_
  refine TL.top (v' := .bool false) (by simp) ?_
  refine TL.assign rfl rfl ?_
  refine TL.done ?_
  refine Thn.go ?_
  refine TC.ret ?_
  refine Ends.ret [2] rfl rfl ?_
  exact ⟨rfl, rfl⟩

theorem fn16 (x : Int) (w : World) : Rets Try.prog 16 #[.int .i64 x] w (fun v w' => v = .bool false ∧ w' = w) := by
  refine Rets.of (n := 6) (vs := [_]) Try.func16 rfl rfl rfl ?_
  refine TC.seq ?_
  refine TC.region ?_
  refine TL.assign rfl rfl ?_
  refine TL.done ?_
  refine Thn.go ?_
  refine TC.seq ?_
  refine TC.region ?_
  refine TL.move rfl rfl ?_
  refine TL.move rfl rfl ?_
  refine TL.neq rfl rfl rfl ?_
  refine TL.top (v' := .bool false) (by simp) ?_
  refine TL.assign rfl rfl ?_
  refine TL.done ?_
  refine Thn.go ?_
  refine TC.ret ?_
  refine Ends.ret [2] rfl rfl ?_
  exact ⟨rfl, rfl⟩

theorem fn17 (x : List UInt8) (w : World) : Rets Try.prog 17 #[str x] w (fun v w' => v = .bool false ∧ w' = w) := by
  refine Rets.of (n := 6) (vs := [_]) Try.func17 rfl rfl rfl ?_
  refine TC.seq ?_
  refine TC.region ?_
  refine TL.assign rfl rfl ?_
  refine TL.done ?_
  refine Thn.go ?_
  refine TC.seq ?_
  refine TC.region ?_
  refine TL.move rfl rfl ?_
  refine TL.move rfl rfl ?_
  refine TL.neqStr rfl rfl rfl ?_
  refine TL.top (v' := .bool false) (by simp) ?_
  refine TL.assign rfl rfl ?_
  refine TL.done ?_
  refine Thn.go ?_
  refine TC.ret ?_
  refine Ends.ret [2] rfl rfl ?_
  exact ⟨rfl, rfl⟩

theorem fn11 (x y : UInt8) (w : World) : Rets Try.prog 11 #[u8 x, u8 y] w (fun v w' => v = .int .i64 (cmpI x.toNat y.toNat) ∧ w' = w) := by
  refine Rets.of (n := 20) (vs := [_, _]) Try.func11 rfl rfl rfl ?_
  refine TC.seq ?_
  refine TC.region ?_
  refine TL.assign rfl rfl ?_
  refine TL.done ?_
  refine Thn.go ?_
  refine TC.seq ?_
  refine TC.region ?_
  refine TL.move rfl rfl ?_
  refine TL.call can15 rfl rfl (fn15 x w) (fun v8 w8 hr8 => ?_)
  obtain ⟨rfl, rfl⟩ := hr8
  refine TL.assign rfl rfl ?_
  refine TL.done ?_
  refine Thn.go ?_
  refine TC.seq ?_
  refine TC.region ?_
  refine TL.move rfl rfl ?_
  refine TL.call can15 rfl rfl (fn15 y w8) (fun v10 w10 hr10 => ?_)
  obtain ⟨rfl, rfl⟩ := hr10
  refine TL.assign rfl rfl ?_
  refine TL.done ?_
  refine Thn.go ?_
  refine TC.seq ?_
  refine TC.seq ?_
  refine TC.region ?_
  refine TL.move rfl rfl ?_
  refine TL.done ?_
  refine Thn.go ?_
  refine TC.condF rfl rfl ?_
  refine TC.skip ?_
  refine Thn.go ?_
  refine TC.seq ?_
  refine TC.seq ?_
  refine TC.region ?_
  refine TL.move rfl rfl ?_
  refine TL.done ?_
  refine Thn.go ?_
  refine TC.condF rfl rfl ?_
  refine TC.skip ?_
  refine Thn.go ?_
  refine TC.seq ?_
  refine TC.seq ?_
  refine TC.region ?_
  refine TL.move rfl rfl ?_
  refine TL.move rfl rfl ?_
  refine TL.lss rfl rfl rfl ?_
  refine TL.done ?_
  refine Thn.go ?_
  refine TC.condP rfl (fun h3 => ?_) (fun h3 => ?_)
  ·
    refine TC.seq ?_
    refine TC.region ?_
    refine TL.assign rfl rfl ?_
    refine TL.done ?_
    refine Thn.go ?_
    refine TC.ret ?_
    refine Thn.ret ?_
    refine Ends.ret [4] rfl rfl ?_
    exact ⟨by unfold cmpI; rw [if_pos h3]; rfl, rfl⟩
  ·
    refine TC.skip ?_
    refine Thn.go ?_
    refine TC.seq ?_
    refine TC.seq ?_
    refine TC.region ?_
    refine TL.move rfl rfl ?_
    refine TL.move rfl rfl ?_
    refine TL.gtr rfl rfl rfl ?_
    refine TL.done ?_
    refine Thn.go ?_
    refine TC.condP rfl (fun h4 => ?_) (fun h4 => ?_)
    ·
      refine TC.seq ?_
      refine TC.region ?_
      refine TL.assign rfl rfl ?_
      refine TL.done ?_
      refine Thn.go ?_
      refine TC.ret ?_
      refine Thn.ret ?_
      refine Ends.ret [4] rfl rfl ?_
      exact ⟨by unfold cmpI; rw [if_neg h3, if_pos h4]; rfl, rfl⟩
    ·
      refine TC.skip ?_
      refine Thn.go ?_
      refine TC.seq ?_
      refine TC.region ?_
      refine TL.assign rfl rfl ?_
      refine TL.done ?_
      refine Thn.go ?_
      refine TC.ret ?_
      refine Ends.ret [4] rfl rfl ?_
      exact ⟨by unfold cmpI; rw [if_neg h3, if_neg h4]; rfl, rfl⟩

theorem fn12 (x y : Int) (w : World) : Rets Try.prog 12 #[.int .i64 x, .int .i64 y] w (fun v w' => v = .int .i64 (cmpI x y) ∧ w' = w) := by
  refine Rets.of (n := 20) (vs := [_, _]) Try.func12 rfl rfl rfl ?_
  refine TC.seq ?_
  refine TC.region ?_
  refine TL.assign rfl rfl ?_
  refine TL.done ?_
  refine Thn.go ?_
  refine TC.seq ?_
  refine TC.region ?_
  refine TL.move rfl rfl ?_
  refine TL.call can16 rfl rfl (fn16 x w) (fun v8 w8 hr8 => ?_)
  obtain ⟨rfl, rfl⟩ := hr8
  refine TL.assign rfl rfl ?_
  refine TL.done ?_
  refine Thn.go ?_
  refine TC.seq ?_
  refine TC.region ?_
  refine TL.move rfl rfl ?_
  refine TL.call can16 rfl rfl (fn16 y w8) (fun v10 w10 hr10 => ?_)
  obtain ⟨rfl, rfl⟩ := hr10
  refine TL.assign rfl rfl ?_
  refine TL.done ?_
  refine Thn.go ?_
  refine TC.seq ?_
  refine TC.seq ?_
  refine TC.region ?_
  refine TL.move rfl rfl ?_
  refine TL.done ?_
  refine Thn.go ?_
  refine TC.condF rfl rfl ?_
  refine TC.skip ?_
  refine Thn.go ?_
  refine TC.seq ?_
  refine TC.seq ?_
  refine TC.region ?_
  refine TL.move rfl rfl ?_
  refine TL.done ?_
  refine Thn.go ?_
  refine TC.condF rfl rfl ?_
  refine TC.skip ?_
  refine Thn.go ?_
  refine TC.seq ?_
  refine TC.seq ?_
  refine TC.region ?_
  refine TL.move rfl rfl ?_
  refine TL.move rfl rfl ?_
  refine TL.lss rfl rfl rfl ?_
  refine TL.done ?_
  refine Thn.go ?_
  refine TC.condP rfl (fun h3 => ?_) (fun h3 => ?_)
  ·
    refine TC.seq ?_
    refine TC.region ?_
    refine TL.assign rfl rfl ?_
    refine TL.done ?_
    refine Thn.go ?_
    refine TC.ret ?_
    refine Thn.ret ?_
    refine Ends.ret [4] rfl rfl ?_
    exact ⟨by unfold cmpI; rw [if_pos h3]; rfl, rfl⟩
  ·
    refine TC.skip ?_
    refine Thn.go ?_
    refine TC.seq ?_
    refine TC.seq ?_
    refine TC.region ?_
    refine TL.move rfl rfl ?_
    refine TL.move rfl rfl ?_
    refine TL.gtr rfl rfl rfl ?_
    refine TL.done ?_
    refine Thn.go ?_
    refine TC.condP rfl (fun h4 => ?_) (fun h4 => ?_)
    ·
      refine TC.seq ?_
      refine TC.region ?_
      refine TL.assign rfl rfl ?_
      refine TL.done ?_
      refine Thn.go ?_
      refine TC.ret ?_
      refine Thn.ret ?_
      refine Ends.ret [4] rfl rfl ?_
      exact ⟨by unfold cmpI; rw [if_neg h3, if_pos h4]; rfl, rfl⟩
    ·
      refine TC.skip ?_
      refine Thn.go ?_
      refine TC.seq ?_
      refine TC.region ?_
      refine TL.assign rfl rfl ?_
      refine TL.done ?_
      refine Thn.go ?_
      refine TC.ret ?_
      refine Ends.ret [4] rfl rfl ?_
      exact ⟨by unfold cmpI; rw [if_neg h3, if_neg h4]; rfl, rfl⟩

theorem fn13 (x y : List UInt8) (w : World) : Rets Try.prog 13 #[str x, str y] w (fun v w' => v = .int .i64 (cmpS x y) ∧ w' = w) := by
  refine Rets.of (n := 20) (vs := [_, _]) Try.func13 rfl rfl rfl ?_
  refine TC.seq ?_
  refine TC.region ?_
  refine TL.assign rfl rfl ?_
  refine TL.done ?_
  refine Thn.go ?_
  refine TC.seq ?_
  refine TC.region ?_
  refine TL.move rfl rfl ?_
  refine TL.call can17 rfl rfl (fn17 x w) (fun v8 w8 hr8 => ?_)
  obtain ⟨rfl, rfl⟩ := hr8
  refine TL.assign rfl rfl ?_
  refine TL.done ?_
  refine Thn.go ?_
  refine TC.seq ?_
  refine TC.region ?_
  refine TL.move rfl rfl ?_
  refine TL.call can17 rfl rfl (fn17 y w8) (fun v10 w10 hr10 => ?_)
  obtain ⟨rfl, rfl⟩ := hr10
  refine TL.assign rfl rfl ?_
  refine TL.done ?_
  refine Thn.go ?_
  refine TC.seq ?_
  refine TC.seq ?_
  refine TC.region ?_
  refine TL.move rfl rfl ?_
  refine TL.done ?_
  refine Thn.go ?_
  refine TC.condF rfl rfl ?_
  refine TC.skip ?_
  refine Thn.go ?_
  refine TC.seq ?_
  refine TC.seq ?_
  refine TC.region ?_
  refine TL.move rfl rfl ?_
  refine TL.done ?_
  refine Thn.go ?_
  refine TC.condF rfl rfl ?_
  refine TC.skip ?_
  refine Thn.go ?_
  refine TC.seq ?_
  refine TC.seq ?_
  refine TC.region ?_
  refine TL.move rfl rfl ?_
  refine TL.move rfl rfl ?_
  refine TL.lssStr rfl rfl rfl ?_
  refine TL.top (v' := .bool (decide (Op.bytesLess x y = true))) (by simp) ?_
  refine TL.done ?_
  refine Thn.go ?_
  refine TC.condP rfl (fun h3 => ?_) (fun h3 => ?_)
  ·
    refine TC.seq ?_
    refine TC.region ?_
    refine TL.assign rfl rfl ?_
    refine TL.done ?_
    refine Thn.go ?_
    refine TC.ret ?_
    refine Thn.ret ?_
    refine Ends.ret [4] rfl rfl ?_
    exact ⟨by unfold cmpS; rw [if_pos h3]; rfl, rfl⟩
  ·
    refine TC.skip ?_
    refine Thn.go ?_
    refine TC.seq ?_
    refine TC.seq ?_
    refine TC.region ?_
    refine TL.move rfl rfl ?_
    refine TL.move rfl rfl ?_
    refine TL.gtrStr rfl rfl rfl ?_
    refine TL.top (v' := .bool (decide (¬ (Op.bytesLess x y = true ∨ x = y)))) (by simp) ?_
    refine TL.done ?_
    refine Thn.go ?_
    refine TC.condP rfl (fun h4 => ?_) (fun h4 => ?_)
    ·
      refine TC.seq ?_
      refine TC.region ?_
      refine TL.assign rfl rfl ?_
      refine TL.done ?_
      refine Thn.go ?_
      refine TC.ret ?_
      refine Thn.ret ?_
      refine Ends.ret [4] rfl rfl ?_
      exact ⟨by unfold cmpS; rw [if_neg h3, if_neg h4]; rfl, rfl⟩
    ·
      refine TC.skip ?_
      refine Thn.go ?_
      refine TC.seq ?_
      refine TC.region ?_
      refine TL.assign rfl rfl ?_
      refine TL.done ?_
      refine Thn.go ?_
      refine TC.ret ?_
      refine Ends.ret [4] rfl rfl ?_
      exact ⟨by unfold cmpS; rw [if_neg h3, if_pos (Classical.not_not.1 h4)]; rfl, rfl⟩

