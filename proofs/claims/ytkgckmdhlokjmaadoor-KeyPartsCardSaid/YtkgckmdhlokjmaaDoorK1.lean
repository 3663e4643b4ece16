/-
  Walks through the given program: each theorem fnN says what the call of function N of the translation hands back, for all arguments that its premises describe, and that nothing that was there has turned.
-/
import Derived.Test.YtkgckmdhlokjmaaDoorProg
import Derived.Test.YtkgckmdhlokjmaaDoorLaneI
import Derived.Test.YtkgckmdhlokjmaaDoorOrd
import Derived.KernelRfl
namespace Go.Proofs.YtkgckmdhlokjmaaDoor
open Go.Lane
open Go.Key
theorem mixed0 : Tryd.prog.follows .mixedOrders = true := by kernel_rfl
theorem ag29 : AggT Tryd.prog 29 3 := ⟨⟨_, Tryd.underlying29, rfl⟩, by kernel_rfl⟩
theorem can28 : Callable Tryd.prog 28 := ⟨Tryd.f28, Tryd.func28, by kernel_rfl, rfl⟩
theorem can29 : Callable Tryd.prog 29 := ⟨Tryd.f29, Tryd.func29, by kernel_rfl, rfl⟩
theorem can30 : Callable Tryd.prog 30 := ⟨Tryd.f30, Tryd.func30, by kernel_rfl, rfl⟩
theorem can31 : Callable Tryd.prog 31 := ⟨Tryd.f31, Tryd.func31, by kernel_rfl, rfl⟩
theorem can32 : Callable Tryd.prog 32 := ⟨Tryd.f32, Tryd.func32, by kernel_rfl, rfl⟩
theorem can33 : Callable Tryd.prog 33 := ⟨Tryd.f33, Tryd.func33, by kernel_rfl, rfl⟩
theorem can41 : Callable Tryd.prog 41 := ⟨Tryd.f41, Tryd.func41, by kernel_rfl, rfl⟩
theorem can42 : Callable Tryd.prog 42 := ⟨Tryd.f42, Tryd.func42, by kernel_rfl, rfl⟩
theorem can43 : Callable Tryd.prog 43 := ⟨Tryd.f43, Tryd.func43, by kernel_rfl, rfl⟩
theorem fd29k0 : FieldT Tryd.prog 29 0 5 0 1 := ⟨_, _, Tryd.underlying29, rfl, rfl, rfl, by kernel_rfl, by decide⟩
theorem fd29k1 : FieldT Tryd.prog 29 1 2 1 1 := ⟨_, _, Tryd.underlying29, rfl, rfl, rfl, by kernel_rfl, by decide⟩
theorem fd29k2 : FieldT Tryd.prog 29 2 9 2 1 := ⟨_, _, Tryd.underlying29, rfl, rfl, rfl, by kernel_rfl, by decide⟩
theorem pl2 : Plain Tryd.prog 2 := ⟨_, Tryd.underlying2, rfl⟩
theorem pl3 : Plain Tryd.prog 3 := ⟨_, Tryd.underlying3, rfl⟩
theorem pl5 : Plain Tryd.prog 5 := ⟨_, Tryd.underlying5, rfl⟩
theorem pl9 : Plain Tryd.prog 9 := ⟨_, Tryd.underlying9, rfl⟩
theorem sl22 : SliceT Tryd.prog 22 29 3 32 (.agg #[.int .u8 0, .int .i64 0, .string ⟨#[]⟩]) := SliceT.mk' Tryd.underlying22 (by kernel_rfl) rfl rfl
theorem sl37 : SliceT Tryd.prog 37 5 1 1 (.int .u8 0) := SliceT.mk' Tryd.underlying37 (by kernel_rfl) rfl rfl
theorem sl78 : SliceT Tryd.prog 78 3 1 8 (.int .i64 0) := SliceT.mk' Tryd.underlying78 (by kernel_rfl) rfl rfl
theorem sz29 : (Tryd.prog.info? 29).map (·.size) = some 3 := by kernel_rfl
theorem sz5 : (Tryd.prog.info? 5).map (·.size) = some 1 := by kernel_rfl
theorem ze29 : ZeroT Tryd.prog 29 (.agg #[.int .u8 0, .int .i64 0, .string ⟨#[]⟩]) := by unfold ZeroT; kernel_rfl
theorem gd29 : Tryd.prog.eqGuardType Tryd.prog.depth 29 = false := by kernel_rfl

/-- A part's cells. -/
def cl (p : Part) : List Value := [u8 p.kind, .int .i64 p.int, str p.text]
theorem cl_len (p : Part) : (cl p).length = 3 := rfl
theorem eqPart (p q : Part) (w : World) : (Op.equalIn 10000 29 (.agg (cl p).toArray) (.agg (cl q).toArray)).run Tryd.prog w = .ok (decide (p = q)) w := by
  have ht : Tryd.prog.underlying 29 = some (.struct (Tryd.prog.fieldsOf 29)) := by rw [Program.fieldsOf, Tryd.underlying29]
  rw [run_equalIn_struct w 9999 29 _ _ ht (by kernel_rfl)]
  simp only [Program.fieldsOf, Tryd.underlying29]
  have e1 := run_equalIn_int (P := Tryd.prog) w 9998 5 .u8 .u8 (p.kind.toNat : Int) (q.kind.toNat : Int) Tryd.underlying5
  have e2 := run_equalIn_int (P := Tryd.prog) w 9998 2 .i64 .i64 p.int q.int Tryd.underlying2
  have e3 := run_equalIn_string (P := Tryd.prog) w 9998 9 ⟨p.text.toArray⟩ ⟨q.text.toArray⟩ Tryd.underlying9
  refine (eqFields_cons (a := u8 p.kind) (b := u8 q.kind) (by decide) pl5 rfl rfl e1).trans ?_
  rw [eqFields_cons (a := .int .i64 p.int) (b := .int .i64 q.int) (by decide) pl2 rfl rfl e2]
  rw [eqFields_cons (a := str p.text) (b := str q.text) (by decide) pl9 rfl rfl e3]
  obtain ⟨k, i, t⟩ := p
  obtain ⟨k', i', t'⟩ := q
  have hk : ((k.toNat : Int) == (k'.toNat : Int)) = decide (k = k') := by
    by_cases h : k = k'
    · simp [h]
    · have : ¬ (k.toNat : Int) = (k'.toNat : Int) := fun e => h (kind_eq.1 e)
      simp [h, this]
  have ht : ((⟨t.toArray⟩ : ByteArray).toList == (⟨t'.toArray⟩ : ByteArray).toList) = decide (t = t') := by
    rw [ByteArray.toList_eq, ByteArray.toList_eq]
    by_cases h : t = t' <;> simp [h]
  simp only [hk, ht, Part.mk.injEq]
  by_cases h1 : k = k' <;> by_cases h2 : i = i' <;> by_cases h3 : t = t' <;> simp [h1, h2, h3, Op.eqFields]

theorem fn41 (x : UInt8) (w : World) : Rets Tryd.prog 41 #[u8 x] w (fun v w' => v = .bool false ∧ w' = w) := by
  refine Rets.of (n := 6) (vs := [_]) Tryd.func41 rfl rfl rfl ?_
  refine TC.seq ?_
  refine TC.region ?_
  refine TL.assign rfl rfl ?_
  refine TL.done ?_
  refine Thn.go ?_
  refine TC.seq ?_
  refine TC.region ?_
  refine TL.move rfl rfl ?_
  refine TL.move rfl rfl ?_
  refine TL.neq rfl rfl rfl ?_
  refine TL.top (v' := .bool false) (by simp) ?_
  refine TL.assign rfl rfl ?_
  refine TL.done ?_
  refine Thn.go ?_
  refine TC.ret ?_
  refine Ends.ret [2] rfl rfl ?_
  exact ⟨rfl, rfl⟩

theorem fn42 (x : Int) (w : World) : Rets Tryd.prog 42 #[.int .i64 x] w (fun v w' => v = .bool false ∧ w' = w) := by
  refine Rets.of (n := 6) (vs := [_]) Tryd.func42 rfl rfl rfl ?_
  refine TC.seq ?_
  refine TC.region ?_
  refine TL.assign rfl rfl ?_
  refine TL.done ?_
  refine Thn.go ?_
  refine TC.seq ?_
  refine TC.region ?_
  refine TL.move rfl rfl ?_
  refine TL.move rfl rfl ?_
  refine TL.neq rfl rfl rfl ?_
  refine TL.top (v' := .bool false) (by simp) ?_
  refine TL.assign rfl rfl ?_
  refine TL.done ?_
  refine Thn.go ?_
  refine TC.ret ?_
  refine Ends.ret [2] rfl rfl ?_
  exact ⟨rfl, rfl⟩

theorem fn43 (x : List UInt8) (w : World) : Rets Tryd.prog 43 #[str x] w (fun v w' => v = .bool false ∧ w' = w) := by
  refine Rets.of (n := 6) (vs := [_]) Tryd.func43 rfl rfl rfl ?_
  refine TC.seq ?_
  refine TC.region ?_
  refine TL.assign rfl rfl ?_
  refine TL.done ?_
  refine Thn.go ?_
  refine TC.seq ?_
  refine TC.region ?_
  refine TL.move rfl rfl ?_
  refine TL.move rfl rfl ?_
  refine TL.neqStr rfl rfl rfl ?_
  refine TL.top (v' := .bool false) (by simp) ?_
  refine TL.assign rfl rfl ?_
  refine TL.done ?_
  refine Thn.go ?_
  refine TC.ret ?_
  refine Ends.ret [2] rfl rfl ?_
  exact ⟨rfl, rfl⟩

theorem fn31 (x y : UInt8) (w : World) : Rets Tryd.prog 31 #[u8 x, u8 y] w (fun v w' => v = .int .i64 (cmpI x.toNat y.toNat) ∧ w' = w) := by
  refine Rets.of (n := 20) (vs := [_, _]) Tryd.func31 rfl rfl rfl ?_
  refine TC.seq ?_
  refine TC.region ?_
  refine TL.assign rfl rfl ?_
  refine TL.done ?_
  refine Thn.go ?_
  refine TC.seq ?_
  refine TC.region ?_
  refine TL.move rfl rfl ?_
  refine TL.call can41 rfl rfl (fn41 x w) (fun v8 w8 hr8 => ?_)
  obtain ⟨rfl, rfl⟩ := hr8
  refine TL.assign rfl rfl ?_
  refine TL.done ?_
  refine Thn.go ?_
  refine TC.seq ?_
  refine TC.region ?_
  refine TL.move rfl rfl ?_
  refine TL.call can41 rfl rfl (fn41 y w8) (fun v10 w10 hr10 => ?_)
  obtain ⟨rfl, rfl⟩ := hr10
  refine TL.assign rfl rfl ?_
  refine TL.done ?_
  refine Thn.go ?_
  refine TC.seq ?_
  refine TC.seq ?_
  refine TC.region ?_
  refine TL.move rfl rfl ?_
  refine TL.done ?_
  refine Thn.go ?_
  refine TC.condF rfl rfl ?_
  refine TC.skip ?_
  refine Thn.go ?_
  refine TC.seq ?_
  refine TC.seq ?_
  refine TC.region ?_
  refine TL.move rfl rfl ?_
  refine TL.done ?_
  refine Thn.go ?_
  refine TC.condF rfl rfl ?_
  refine TC.skip ?_
  refine Thn.go ?_
  refine TC.seq ?_
  refine TC.seq ?_
  refine TC.region ?_
  refine TL.move rfl rfl ?_
  refine TL.move rfl rfl ?_
  refine TL.lss rfl rfl rfl ?_
  refine TL.done ?_
  refine Thn.go ?_
  refine TC.condP rfl (fun h3 => ?_) (fun h3 => ?_)
  ·
    refine TC.seq ?_
    refine TC.region ?_
    refine TL.assign rfl rfl ?_
    refine TL.done ?_
    refine Thn.go ?_
    refine TC.ret ?_
    refine Thn.ret ?_
    refine Ends.ret [4] rfl rfl ?_
    exact ⟨by unfold cmpI; rw [if_pos h3]; rfl, rfl⟩
  ·
    refine TC.skip ?_
    refine Thn.go ?_
    refine TC.seq ?_
    refine TC.seq ?_
    refine TC.region ?_
    refine TL.move rfl rfl ?_
    refine TL.move rfl rfl ?_
    refine TL.gtr rfl rfl rfl ?_
    refine TL.done ?_
    refine Thn.go ?_
    refine TC.condP rfl (fun h4 => ?_) (fun h4 => ?_)
    ·
      refine TC.seq ?_
      refine TC.region ?_
      refine TL.assign rfl rfl ?_
      refine TL.done ?_
      refine Thn.go ?_
      refine TC.ret ?_
      refine Thn.ret ?_
      refine Ends.ret [4] rfl rfl ?_
      exact ⟨by unfold cmpI; rw [if_neg h3, if_pos h4]; rfl, rfl⟩
    ·
      refine TC.skip ?_
      refine Thn.go ?_
      refine TC.seq ?_
      refine TC.region ?_
      refine TL.assign rfl rfl ?_
      refine TL.done ?_
      refine Thn.go ?_
      refine TC.ret ?_
      refine Ends.ret [4] rfl rfl ?_
      exact ⟨by unfold cmpI; rw [if_neg h3, if_neg h4]; rfl, rfl⟩

theorem fn32 (x y : Int) (w : World) : Rets Tryd.prog 32 #[.int .i64 x, .int .i64 y] w (fun v w' => v = .int .i64 (cmpI x y) ∧ w' = w) := by
  refine Rets.of (n := 20) (vs := [_, _]) Tryd.func32 rfl rfl rfl ?_
  refine TC.seq ?_
  refine TC.region ?_
  refine TL.assign rfl rfl ?_
  refine TL.done ?_
  refine Thn.go ?_
  refine TC.seq ?_
  refine TC.region ?_
  refine TL.move rfl rfl ?_
  refine TL.call can42 rfl rfl (fn42 x w) (fun v8 w8 hr8 => ?_)
  obtain ⟨rfl, rfl⟩ := hr8
  refine TL.assign rfl rfl ?_
  refine TL.done ?_
  refine Thn.go ?_
  refine TC.seq ?_
  refine TC.region ?_
  refine TL.move rfl rfl ?_
  refine TL.call can42 rfl rfl (fn42 y w8) (fun v10 w10 hr10 => ?_)
  obtain ⟨rfl, rfl⟩ := hr10
  refine TL.assign rfl rfl ?_
  refine TL.done ?_
  refine Thn.go ?_
  refine TC.seq ?_
  refine TC.seq ?_
  refine TC.region ?_
  refine TL.move rfl rfl ?_
  refine TL.done ?_
  refine Thn.go ?_
  refine TC.condF rfl rfl ?_
  refine TC.skip ?_
  refine Thn.go ?_
  refine TC.seq ?_
  refine TC.seq ?_
  refine TC.region ?_
  refine TL.move rfl rfl ?_
  refine TL.done ?_
  refine Thn.go ?_
  refine TC.condF rfl rfl ?_
  refine TC.skip ?_
  refine Thn.go ?_
  refine TC.seq ?_
  refine TC.seq ?_
  refine TC.region ?_
  refine TL.move rfl rfl ?_
  refine TL.move rfl rfl ?_
  refine TL.lss rfl rfl rfl ?_
  refine TL.done ?_
  refine Thn.go ?_
  refine TC.condP rfl (fun h3 => ?_) (fun h3 => ?_)
  ·
    refine TC.seq ?_
    refine TC.region ?_
    refine TL.assign rfl rfl ?_
    refine TL.done ?_
    refine Thn.go ?_
    refine TC.ret ?_
    refine Thn.ret ?_
    refine Ends.ret [4] rfl rfl ?_
    exact ⟨by unfold cmpI; rw [if_pos h3]; rfl, rfl⟩
  ·
    refine TC.skip ?_
    refine Thn.go ?_
    refine TC.seq ?_
    refine TC.seq ?_
    refine TC.region ?_
    refine TL.move rfl rfl ?_
    refine TL.move rfl rfl ?_
    refine TL.gtr rfl rfl rfl ?_
    refine TL.done ?_
    refine Thn.go ?_
    refine TC.condP rfl (fun h4 => ?_) (fun h4 => ?_)
    ·
      refine TC.seq ?_
      refine TC.region ?_
      refine TL.assign rfl rfl ?_
      refine TL.done ?_
      refine Thn.go ?_
      refine TC.ret ?_
      refine Thn.ret ?_
      refine Ends.ret [4] rfl rfl ?_
      exact ⟨by unfold cmpI; rw [if_neg h3, if_pos h4]; rfl, rfl⟩
    ·
      refine TC.skip ?_
      refine Thn.go ?_
      refine TC.seq ?_
      refine TC.region ?_
      refine TL.assign rfl rfl ?_
      refine TL.done ?_
      refine Thn.go ?_
      refine TC.ret ?_
      refine Ends.ret [4] rfl rfl ?_
      exact ⟨by unfold cmpI; rw [if_neg h3, if_neg h4]; rfl, rfl⟩

theorem fn33 (x y : List UInt8) (w : World) : Rets Tryd.prog 33 #[str x, str y] w (fun v w' => v = .int .i64 (cmpS x y) ∧ w' = w) := by
  refine Rets.of (n := 20) (vs := [_, _]) Tryd.func33 rfl rfl rfl ?_
  refine TC.seq ?_
  refine TC.region ?_
  refine TL.assign rfl rfl ?_
  refine TL.done ?_
  refine Thn.go ?_
  refine TC.seq ?_
  refine TC.region ?_
  refine TL.move rfl rfl ?_
  refine TL.call can43 rfl rfl (fn43 x w) (fun v8 w8 hr8 => ?_)
  obtain ⟨rfl, rfl⟩ := hr8
  refine TL.assign rfl rfl ?_
  refine TL.done ?_
  refine Thn.go ?_
  refine TC.seq ?_
  refine TC.region ?_
  refine TL.move rfl rfl ?_
  refine TL.call can43 rfl rfl (fn43 y w8) (fun v10 w10 hr10 => ?_)
  obtain ⟨rfl, rfl⟩ := hr10
  refine TL.assign rfl rfl ?_
  refine TL.done ?_
  refine Thn.go ?_
  refine TC.seq ?_
  refine TC.seq ?_
  refine TC.region ?_
  refine TL.move rfl rfl ?_
  refine TL.done ?_
  refine Thn.go ?_
  refine TC.condF rfl rfl ?_
  refine TC.skip ?_
  refine Thn.go ?_
  refine TC.seq ?_
  refine TC.seq ?_
  refine TC.region ?_
  refine TL.move rfl rfl ?_
  refine TL.done ?_
  refine Thn.go ?_
  refine TC.condF rfl rfl ?_
  refine TC.skip ?_
  refine Thn.go ?_
  refine TC.seq ?_
  refine TC.seq ?_
  refine TC.region ?_
  refine TL.move rfl rfl ?_
  refine TL.move rfl rfl ?_
  refine TL.lssStr rfl rfl rfl ?_
  refine TL.top (v' := .bool (decide (Op.bytesLess x y = true))) (by simp) ?_
  refine TL.done ?_
  refine Thn.go ?_
  refine TC.condP rfl (fun h3 => ?_) (fun h3 => ?_)
  ·
    refine TC.seq ?_
    refine TC.region ?_
    refine TL.assign rfl rfl ?_
    refine TL.done ?_
    refine Thn.go ?_
    refine TC.ret ?_
    refine Thn.ret ?_
    refine Ends.ret [4] rfl rfl ?_
    exact ⟨by unfold cmpS; rw [if_pos h3]; rfl, rfl⟩
  ·
    refine TC.skip ?_
    refine Thn.go ?_
    refine TC.seq ?_
    refine TC.seq ?_
    refine TC.region ?_
    refine TL.move rfl rfl ?_
    refine TL.move rfl rfl ?_
    refine TL.gtrStr rfl rfl rfl ?_
    refine TL.top (v' := .bool (decide (¬ (Op.bytesLess x y = true ∨ x = y)))) (by simp) ?_
    refine TL.done ?_
    refine Thn.go ?_
    refine TC.condP rfl (fun h4 => ?_) (fun h4 => ?_)
    ·
      refine TC.seq ?_
      refine TC.region ?_
      refine TL.assign rfl rfl ?_
      refine TL.done ?_
      refine Thn.go ?_
      refine TC.ret ?_
      refine Thn.ret ?_
      refine Ends.ret [4] rfl rfl ?_
      exact ⟨by unfold cmpS; rw [if_neg h3, if_neg h4]; rfl, rfl⟩
    ·
      refine TC.skip ?_
      refine Thn.go ?_
      refine TC.seq ?_
      refine TC.region ?_
      refine TL.assign rfl rfl ?_
      refine TL.done ?_
      refine Thn.go ?_
      refine TC.ret ?_
      refine Ends.ret [4] rfl rfl ?_
      exact ⟨by unfold cmpS; rw [if_neg h3, if_pos (Classical.not_not.1 h4)]; rfl, rfl⟩

