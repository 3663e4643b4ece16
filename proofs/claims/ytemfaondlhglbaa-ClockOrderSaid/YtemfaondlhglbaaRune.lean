/-
  strings.IndexRune and strings.ContainsRune of three ASCII bytes at a rune behind ASCII.
-/
import Derived.Shelf.Strings.Runes
import Derived.Shelf.Small.Utf8
import Derived.Shelf.GgClosure.GivesRunes
import Derived.Laws.Runes
import Derived.Scope
import Derived.Shelf.RegionOpenPlain
import Derived.Deep.QuietTactic
import Derived.Lib.IndexLaws
import Derived.Below
import Derived.Shelf.Strings.FuncGrows
import Derived.Handy
namespace Go.Proofs
open Go.Shelf Go.RowKit Go.Lib
variable {P : Program} {ρ : Ren}

def dash3 : ByteArray := ⟨#[45, 95, 46]⟩

theorem idx_none {l : List UInt8} {b : UInt8} (hl : ∀ x ∈ l, x.toNat < 128) (hb : 128 ≤ b.toNat) : Lib.indexByte l ((b.toNat : Int).toNat.toUInt8) = -1 := by
  rw [Int.toNat_natCast]
  induction l with
  | nil => rfl
  | cons x l ih =>
    have h1 := hl x (by simp)
    have hx : (x == b.toNat.toUInt8) = false := by
      rw [beq_eq_false_iff_ne]
      intro e
      rw [e] at h1
      simp at h1
      omega
    rw [Lib.indexByte, hx, ih (fun y hy => hl y (by simp [hy]))]
    rfl
theorem ng_ret {Q : Exit → Act → World → Prop} {a : Act} {w : World} (h : Q .ret a w) : Exit.noGoto Q .ret a w := h
theorem ib_ret {k : Nat} {Q : Exit → Act → World → Prop} {a : Act} {w : World} (h : Q .ret a w) : Exit.inBlock k Q .ret a w := h
theorem th_ret {K : Act → World → Prop} {Q : Exit → Act → World → Prop} {a : Act} {w : World} (h : Q .ret a w) : Exit.then K Q .ret a w := h
theorem size_two {E : ByteArray} (h : E.size = 2) : ∃ a b, E = ⟨#[a, b]⟩ := by
  obtain ⟨⟨l⟩⟩ := E
  match l, h with
  | [a, b], _ => exact ⟨a, b, rfl⟩
theorem size_three {E : ByteArray} (h : E.size = 3) : ∃ a b c, E = ⟨#[a, b, c]⟩ := by
  obtain ⟨⟨l⟩⟩ := E
  match l, h with
  | [a, b, c], _ => exact ⟨a, b, c, rfl⟩
theorem size_four {E : ByteArray} (h : E.size = 4) : ∃ a b c d, E = ⟨#[a, b, c, d]⟩ := by
  obtain ⟨⟨l⟩⟩ := E
  match l, h with
  | [a, b, c, d], _ => exact ⟨a, b, c, d, rfl⟩

set_option maxHeartbeats 2000000 in
set_option maxRecDepth 1000000 in
theorem Any.IndexRune_wide (L : Lays.n152 P ρ) (r : Int) (w : World) (h0 : 128 ≤ r) (h1 : r ≤ 1114111) :
    Calls P (ρ.f 152) #[.string dash3, .int .i32 r] w fun e w' => e = .returned (.int .i64 (-1)) ∧ Below w.heap.size w w' := by
  have t3 := L.t3; have a3 := L.a3; have z3 := L.z3; have v3 := L.v3
  have t4 := L.t4; have a4 := L.a4; have z4 := L.z4; have v4 := L.v4
  have t5 := L.t5; have a5 := L.a5; have z5 := L.z5; have v5 := L.v5
  have t9 := L.t9; have a9 := L.a9; have z9 := L.z9; have v9 := L.v9
  have t21 := L.t21; have a21 := L.a21; have z21 := L.z21; have v21 := L.v21
  have mixed := L.mixed
  have e137 : ∀ args w, (callFunc (ρ.f 137) args).run P w = .ok (.enter (ρ.f 137) args) w := enters_of L.f137 (by kernel_rfl) rfl
  have e119 : ∀ args w, (callFunc (ρ.f 119) args).run P w = .ok (.enter (ρ.f 119) args) w := enters_of L.f119 (by kernel_rfl) rfl
  by_cases hb : r = 65533
  · subst hb
    have hit0 : (w.iter dash3 0).heap[w.heap.size]? = some (.stringIter dash3 0) := World.iter_heap w dash3 0
    have hb0 : Below w.heap.size w (w.iter dash3 0) := (Below.refl _ w).alloc (Nat.le_refl _) _
    have hn0 : ∀ ty, (Instr.next (.pointer (some ⟨w.heap.size, 0, none⟩)) true ty).run P (w.iter dash3 0) = _ := fun ty => Lib.run_next_any_at _ w.heap.size dash3 0 ty hit0 (by decide)
    have hit1 := Lib.iterAt_heap (w.iter dash3 0) w.heap.size dash3 0 (0 + (Utf8.decode dash3 0).2) hit0
    have hb1 := Lib.below_iterAt hb0 (k := w.heap.size) (Nat.le_refl _) dash3 (0 + (Utf8.decode dash3 0).2)
    obtain ⟨W1, hW1⟩ : ∃ W1, (w.iter dash3 0).iterAt w.heap.size dash3 (0 + (Utf8.decode dash3 0).2) = W1 := ⟨_, rfl⟩
    rw [hW1] at hn0 hit1 hb1
    have hn1 : ∀ ty, (Instr.next (.pointer (some ⟨w.heap.size, 0, none⟩)) true ty).run P W1 = _ := fun ty => Lib.run_next_any_at _ w.heap.size dash3 1 ty hit1 (by decide)
    have hit2 := Lib.iterAt_heap W1 w.heap.size dash3 1 (1 + (Utf8.decode dash3 1).2) hit1
    have hb2 := Lib.below_iterAt hb1 (k := w.heap.size) (Nat.le_refl _) dash3 (1 + (Utf8.decode dash3 1).2)
    obtain ⟨W2, hW2⟩ : ∃ W2, W1.iterAt w.heap.size dash3 (1 + (Utf8.decode dash3 1).2) = W2 := ⟨_, rfl⟩
    rw [hW2] at hn1 hit2 hb2
    have hn2 : ∀ ty, (Instr.next (.pointer (some ⟨w.heap.size, 0, none⟩)) true ty).run P W2 = _ := fun ty => Lib.run_next_any_at _ w.heap.size dash3 2 ty hit2 (by decide)
    have hit3 := Lib.iterAt_heap W2 w.heap.size dash3 2 (2 + (Utf8.decode dash3 2).2) hit2
    have hb3 := Lib.below_iterAt hb2 (k := w.heap.size) (Nat.le_refl _) dash3 (2 + (Utf8.decode dash3 2).2)
    obtain ⟨W3, hW3⟩ : ∃ W3, W2.iterAt w.heap.size dash3 (2 + (Utf8.decode dash3 2).2) = W3 := ⟨_, rfl⟩
    rw [hW3] at hn2 hit3 hb3
    have hn3 : ∀ ty, (Instr.next (.pointer (some ⟨w.heap.size, 0, none⟩)) true ty).run P W3 = _ := fun ty => Lib.run_next_end_at _ w.heap.size dash3 3 ty hit3 (by decide)
    have d0 : (Utf8.decode dash3 0).1 = 45 := by decide +kernel
    have d1 : (Utf8.decode dash3 1).1 = 95 := by decide +kernel
    have d2 : (Utf8.decode dash3 2).1 = 46 := by decide +kernel
    rw [d0] at hn0
    rw [d1] at hn1
    rw [d2] at hn2
    clear hit0 hit1 hit2 hit3 hW1 hW2 hW3 hb0 hb1 hb2
    go_enter L.f152, Body.n152_ntmps ρ
    go_wp2
    go_rounds 4
    repeat (first | refine ng_ret ?_ | refine ib_ret ?_ | refine th_ret ?_)
    go_ret
    exact ⟨rfl, hb3⟩
  · by_cases hv : Lib.validRune r = true
    · have hval : Utf8.valid r = true := by rw [validRune_eq]; simpa [Go.validRune, Lib.validRune] using hv
      obtain ⟨he2, he4, hlast⟩ := encode_facts r hval h0
      obtain ⟨E, hE⟩ : ∃ E, Utf8.encode r = E := ⟨_, rfl⟩
      rw [hE] at he2 he4 hlast
      have hcv : ∀ w, (convert (ρ.t 21) (ρ.t 9) (.int .i32 r)).run P w = .ok (.string E) w := fun w => by
        rw [run_convert_int_string w _ _ _ _ (by rw [t21]; rfl) t9, hE]
      go_enter L.f152, Body.n152_ntmps ρ
      go_wp2_with (go_at_fn (ρ.f 119); refine (Any.utf8_ValidRune { L with } _ _).mono ?_; rintro e w' ⟨rfl, hw⟩; rw [hw, hv])
      refine wp_scope_straight ?_
      go_wp2
      rcases (show E.size = 2 ∨ E.size = 3 ∨ E.size = 4 by omega) with hs | hs | hs
      · obtain ⟨a, b, rfl⟩ := size_two hs
        have hb128 : 128 ≤ b.toNat := hlast (by show 1 < 2; omega)
        have hi : ∀ w, (Instr.index (ρ.t 9) (.string dash3) (.int .i64 1)).run P w = .ok (.int .u8 95) w := fun w => by rw [run_index_string w _ _ _ _ t9]; rfl
        have hiE : ∀ w, (Instr.index (ρ.t 9) (.string ⟨#[a, b]⟩) (.int .i64 1)).run P w = .ok (.int .u8 (b.toNat : Int)) w := fun w => by rw [run_index_string w _ _ _ _ t9]; rfl
        have hne : ((95 : Int) != (b.toNat : Int)) = true := by rw [bne_iff_ne]; omega
        have hwr : IntKind.i64.wrap 2 = 2 := by decide
        have hsl : ∀ w, (Instr.slice (ρ.t 9) (.string dash3) (some (.int .i64 2)) none none).run P w = .ok (.string (dash3.extract 2 3)) w := fun w => by rw [run_slice_string_l w _ _ t9 _ _ (by decide) (by decide)]; rfl
        have cB : ∀ w, Calls P (ρ.f 137) #[.string (dash3.extract 2 3), .int .u8 (b.toNat : Int)] w fun e w' => e = .returned (.int .i64 (-1)) ∧ w' = w := fun w => by
          have := Any.strings_IndexByte { L with } (dash3.extract 2 3) (b.toNat : Int) w
          rwa [idx_none (by decide) hb128] at this
        go_rounds 1
        refine wp_scope_straight ?_
        go_wp2
        go_quiet_o (fail)
        generalize hW : w.drewN nq = W
        have hbW : Below w.heap.size w W := hW ▸ below_drewNg w nq
        go_wp2
        go_quiet_o (exact Calls.quiet_of_same (cB _))
        go_wp2
        repeat (first | refine ng_ret ?_ | refine ib_ret ?_ | refine th_ret ?_)
        go_ret
        exact ⟨rfl, hbW.trans ((below_drewNg W nq).mono hbW.size)⟩
      · obtain ⟨a, b, c, rfl⟩ := size_three hs
        have hb128 : 128 ≤ c.toNat := hlast (by show 2 < 3; omega)
        have hi : ∀ w, (Instr.index (ρ.t 9) (.string dash3) (.int .i64 2)).run P w = .ok (.int .u8 46) w := fun w => by rw [run_index_string w _ _ _ _ t9]; rfl
        have hiE : ∀ w, (Instr.index (ρ.t 9) (.string ⟨#[a, b, c]⟩) (.int .i64 2)).run P w = .ok (.int .u8 (c.toNat : Int)) w := fun w => by rw [run_index_string w _ _ _ _ t9]; rfl
        have hne : ((46 : Int) != (c.toNat : Int)) = true := by rw [bne_iff_ne]; omega
        have hwr : IntKind.i64.wrap 3 = 3 := by decide
        have hsl : ∀ w, (Instr.slice (ρ.t 9) (.string dash3) (some (.int .i64 3)) none none).run P w = .ok (.string (dash3.extract 3 3)) w := fun w => by rw [run_slice_string_l w _ _ t9 _ _ (by decide) (by decide)]; rfl
        have cB : ∀ w, Calls P (ρ.f 137) #[.string (dash3.extract 3 3), .int .u8 (c.toNat : Int)] w fun e w' => e = .returned (.int .i64 (-1)) ∧ w' = w := fun w => by
          have := Any.strings_IndexByte { L with } (dash3.extract 3 3) (c.toNat : Int) w
          rwa [idx_none (by decide) hb128] at this
        go_rounds 1
        refine wp_scope_straight ?_
        go_wp2
        go_quiet_o (fail)
        generalize hW : w.drewN nq = W
        have hbW : Below w.heap.size w W := hW ▸ below_drewNg w nq
        go_wp2
        go_quiet_o (exact Calls.quiet_of_same (cB _))
        go_wp2
        repeat (first | refine ng_ret ?_ | refine ib_ret ?_ | refine th_ret ?_)
        go_ret
        exact ⟨rfl, hbW.trans ((below_drewNg W nq).mono hbW.size)⟩
      · obtain ⟨a, b, c, d, rfl⟩ := size_four hs
        go_rounds 1
        refine ng_ret (ib_ret ?_)
        go_ret
        exact ⟨rfl, Below.refl _ _⟩
    · go_enter L.f152, Body.n152_ntmps ρ
      go_wp2_with (go_at_fn (ρ.f 119); refine (Any.utf8_ValidRune { L with } _ _).mono ?_; rintro e w' ⟨rfl, hw⟩; rw [hw, show Lib.validRune r = false by simpa using hv])
      go_ret
      exact ⟨rfl, Below.refl _ _⟩

set_option maxHeartbeats 2000000 in
set_option maxRecDepth 1000000 in
theorem Any.ContainsRune_wide (L : Lays.n151 P ρ) (r : Int) (w : World) (h0 : 128 ≤ r) (h1 : r ≤ 1114111) :
    Calls P (ρ.f 151) #[.string dash3, .int .i32 r] w fun e w' => e = .returned (.bool false) ∧ Below w.heap.size w w' := by
  have t3 := L.t3; have a3 := L.a3; have z3 := L.z3; have v3 := L.v3
  have t4 := L.t4; have a4 := L.a4; have z4 := L.z4; have v4 := L.v4
  have t9 := L.t9; have a9 := L.a9; have z9 := L.z9; have v9 := L.v9
  have t21 := L.t21; have a21 := L.a21; have z21 := L.z21; have v21 := L.v21
  have e152 : ∀ args w, (callFunc (ρ.f 152) args).run P w = .ok (.enter (ρ.f 152) args) w := enters_of L.f152 (by kernel_rfl) rfl
  go_enter L.f151, Body.n151_ntmps ρ
  go_wp2_with (go_at_fn (ρ.f 152); refine (Any.IndexRune_wide { L with } _ _ h0 h1).mono ?_; rintro e w' ⟨rfl, hb⟩)
  go_ret
  exact ⟨rfl, hb⟩
end Go.Proofs
