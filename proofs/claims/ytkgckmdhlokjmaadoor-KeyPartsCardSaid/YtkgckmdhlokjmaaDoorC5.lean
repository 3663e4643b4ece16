/-
  Walks through the given program: each theorem fnN says what the call of function N of the translation hands back, for all arguments that its premises describe, and that nothing that was there has turned.
-/
import Derived.Test.YtkgckmdhlokjmaaDoorC4
namespace Go.Proofs.YtkgckmdhlokjmaaDoor
open Go.Lane
open Go.Key
open Go.RowKit (Below)
theorem can38 : Callable Tryd.prog 38 := ⟨Tryd.f38, Tryd.func38, by kernel_rfl, rfl⟩
theorem can46 : Callable Tryd.prog 46 := ⟨Tryd.f46, Tryd.func46, by kernel_rfl, rfl⟩
def noP : Part := ⟨0, 0, []⟩
/-- The part with which a key begins, and how many bytes it has; 0: there is none. -/
def oneR (s : List UInt8) : Part × Nat := match oneP s with
  | none => (noP, 0)
  | some (p, r) => (p, s.length - r.length)
theorem oneR_none {s : List UInt8} (h : oneP s = none) : oneR s = (noP, 0) := by rw [oneR, h]
theorem oneR_some {s r : List UInt8} {p : Part} (h : oneP s = some (p, r)) : oneR s = (p, s.length - r.length) := by rw [oneR, h]
/-- A row of bytes of which a beginning is written. -/
def stB (tl : List UInt8) (i : Nat) : List UInt8 := (tl.take 8).reverse.take i ++ List.replicate (8 - i) 0
theorem stB_len {tl : List UInt8} (h : 8 ≤ tl.length) {i : Nat} (hi : i ≤ 8) : (stB tl i).length = 8 := by
  simp [stB]; omega
theorem stB_end {tl : List UInt8} (h : 8 ≤ tl.length) : stB tl 8 = (tl.take 8).reverse := by
  rw [stB, List.take_of_length_le (by simp; omega)]
  simp
theorem stB_step {tl : List UInt8} (h : 8 ≤ tl.length) {i : Nat} (hi : i < 8) : (stB tl i).set i (tl.getD (7 - i) 0) = stB tl (i + 1) := by
  have hl : (tl.take 8).reverse.length = 8 := by simp; omega
  have e1 : (tl.take 8).reverse.take (i + 1) = (tl.take 8).reverse.take i ++ [tl.getD (7 - i) 0] := by
    rw [take_snoc (by omega), List.getElem_reverse, List.getElem_take, List.getD_eq_getElem?_getD, List.getElem?_eq_getElem (by omega)]
    have : (tl.take 8).length = 8 := by simp; omega
    simp only [this]
    rfl
  have e2 : List.replicate (8 - i) (0 : UInt8) = 0 :: List.replicate (8 - (i + 1)) 0 := by
    rw [show 8 - i = (8 - (i + 1)) + 1 by omega, List.replicate_succ]
  have hlt : ((tl.take 8).reverse.take i).length = i := by rw [List.length_take]; omega
  rw [stB, stB, e1, e2, List.set_append, if_neg (by omega), hlt, Nat.sub_self, List.set_cons_zero, List.append_assoc]
  rfl
theorem back_sub {n : Nat} (h : n < 2 ^ 64) : IntKind.i64.wrap ((UInt64.ofNat n - 9223372036854775808).toNat : Int) = backI n := by
  have e : UInt64.ofNat n - 9223372036854775808 = UInt64.ofNat n + 9223372036854775808 := by
    apply UInt64.toNat.inj
    have h2 := UInt64.toNat_lt (UInt64.ofNat n)
    rw [UInt64.toNat_sub, UInt64.toNat_add, show (9223372036854775808 : UInt64).toNat = 9223372036854775808 from rfl]
    omega
  rw [e, ← xor_add, back_xor h]
theorem made8 : (madeCells (Value.int .u8 0).cells (8 * 1)).toList = (List.replicate 8 (0 : UInt8)).map u8 := by kernel_rfl
theorem unesc_short : ∀ l : List UInt8, l.length ≤ 1 → unesc l = none
  | [], _ => by rw [unesc.eq_def]
  | [c], _ => by
    by_cases h : c = 0
    · subst h; rw [unesc.eq_def]; rfl
    · rw [unesc_other h, unesc.eq_def]; rfl
  | _ :: _ :: _, h => by simp at h

theorem fn38 (s : List UInt8) (hs : s ≠ []) (hl : s.length ≤ 256) (w : World) : Rets Tryd.prog 38 #[str s] w (fun v w' => v = .tuple #[.agg (cl (oneR s).1).toArray, .int .i64 ((oneR s).2 : Int)] ∧ Ch [] w w') := by
  have hmm : maxLen = 9223372036854775807 := rfl
  obtain ⟨c, tl, rfl⟩ : ∃ c tl, s = c :: tl := by cases s with
    | nil => exact absurd rfl hs
    | cons c tl => exact ⟨c, tl, rfl⟩
  have hcl : (c :: tl).length = tl.length + 1 := rfl
  refine Rets.of (n := 82) (vs := [_]) Tryd.func38 rfl rfl rfl ?_
  refine TC.seq ?_
  refine TC.region ?_
  refine TL.alloc ze29 rfl (fun w2 hb2 hc2 hz2 => ?_)
  replace hb2 : Has w2 w.heap.size (cl noP).toArray 29 (0, 0) := hb2
  refine TL.assign rfl rfl ?_
  refine TL.done ?_
  refine Thn.go ?_
  refine TC.seq ?_
  refine TC.regionBool (d := 17) (p := (c = 1 ∧ 8 ≤ tl.length)) (fun K1 hK1 => ?_) ?_
  ·
    refine TL.move rfl rfl ?_
    refine TL.indexStr (l := c :: tl) (j := 0) (b := c) Tryd.underlying9 rfl rfl rfl rfl rfl ?_
    refine TL.eql rfl rfl rfl ?_
    refine TL.em (fun e12 => ?_) (fun e12 => ?_)
    ·
      have hce : c = 1 := kind_eq.1 (by assumption)
      refine TL.move rfl rfl ?_
      refine TL.guardYes (d := 13) rfl rfl rfl ?_
      refine TL.move rfl rfl ?_
      refine TL.guardYes (d := 13) rfl rfl rfl ?_
      refine TL.lenStr Tryd.underlying9 rfl rfl ?_
      refine TL.guardYes (d := 13) rfl rfl rfl ?_
      refine TL.geq rfl rfl rfl ?_
      refine TL.pickT rfl rfl rfl rfl ?_
      refine TL.done ?_
      refine hK1 _ ?_
      refine Le.here rfl (by first | exact decide_eq_true (by omega) | exact decide_eq_false (by omega) | exact decide_eq_decide.2 (by omega) | exact decide_eq_true (by grind) | exact decide_eq_false (by grind) | exact decide_eq_decide.2 (by grind)) ?_
      repeat (first | exact Le.refl _ | refine Le.skip rfl ?_)
    ·
      have hcn : ¬ c = 1 := fun e => absurd (congrArg (fun x : UInt8 => (x.toNat : Int)) e) (by assumption)
      refine TL.move rfl rfl ?_
      refine TL.guardNo (d := 13) rfl rfl rfl rfl rfl ?_
      refine TL.guardNo (d := 13) rfl rfl rfl rfl rfl ?_
      refine TL.guardNo (d := 13) rfl rfl rfl rfl rfl ?_
      refine TL.pickF rfl rfl rfl rfl ?_
      refine TL.done ?_
      refine hK1 _ ?_
      refine Le.here rfl (by first | exact decide_eq_true (by omega) | exact decide_eq_false (by omega) | exact decide_eq_decide.2 (by omega) | exact decide_eq_true (by grind) | exact decide_eq_false (by grind) | exact decide_eq_decide.2 (by grind)) ?_
      repeat (first | exact Le.refl _ | refine Le.skip rfl ?_)
  refine TC.condP rfl (fun h3 => ?_) (fun h3 => ?_)
  ·
    obtain ⟨hc1, h8l⟩ : c = 1 ∧ 8 ≤ tl.length := by assumption
    have hlt : (tl.take 8).length = 8 := by rw [List.length_take]; omega
    have hnum := num_lt (tl.take 8)
    rw [hlt] at hnum
    have hone : oneP (c :: tl) = some (numP (backI (num (tl.take 8))), tl.drop 8) := by rw [oneP, if_pos ⟨hc1, h8l⟩]; rfl
    have hR : oneR (c :: tl) = (numP (backI (num (tl.take 8))), 9) := by
      rw [oneR_some hone, List.length_drop, hcl]
      congr 1; omega
    refine TC.seq ?_
    refine TC.region ?_
    refine TL.makeSlice (8) sl37 rfl rfl (rfl) (by decide) (by decide) rfl (fun w18 hv18 hc18 hz18 => ?_)
    rw [made8] at hv18
    refine TL.assign rfl rfl ?_
    refine TL.done ?_
    refine Thn.go ?_
    refine TC.seq ?_
    refine TC.seq ?_
    refine TC.region ?_
    refine TL.assign rfl rfl ?_
    refine TL.done ?_
    refine Thn.go ?_
    refine TC.block ?_
    refine TC.loop1 (fun (i : Nat) => [(0, str (c :: tl)), (2, .pointer (some ⟨w.heap.size, 0, none⟩)), (4, .slice (some ⟨w2.heap.size, 0, none⟩) 8 8), (5, .int .i64 (i : Int))]) (fun i w' => i ≤ 8 ∧ Own w' w2.heap.size 5 1 (.slice (some ⟨w2.heap.size, 0, none⟩) 8 8) 8 ((stB tl i).map u8) ∧ Ch [] w2 w') (fun i => 8 - i) 0 (by repeat (first | exact trivial | refine ⟨rfl, ?_⟩)) (⟨by omega, hv18, hc18⟩) (fun i w' hH => ?_)
    obtain ⟨hi8, hown, hch⟩ := hH
    refine TC.seq ?_
    refine TC.seq ?_
    refine TC.region ?_
    refine TL.move rfl rfl ?_
    refine TL.lss rfl rfl rfl ?_
    refine TL.done ?_
    refine Thn.go ?_
    refine TC.condP rfl (fun h4 => ?_) (fun h4 => ?_)
    ·
      have hil : i < 8 := by omega
      obtain ⟨cur, hh, hsz, hmc, hcm, hbg, htk⟩ := hown.has
      refine TC.skip ?_
      refine Thn.go ?_
      refine TC.seq ?_
      refine TC.block ?_
      refine TC.region ?_
      refine TL.move rfl rfl ?_
      refine TL.move rfl rfl ?_
      refine TL.move rfl rfl ?_
      refine TL.move rfl rfl ?_
      refine TL.sub_i64 rfl rfl (by omega) (by omega) rfl ?_
      refine TL.indexStr (l := c :: tl) (j := 8 - i) (b := tl.getD (7 - i) 0) Tryd.underlying9 rfl rfl (by omega) (by rw [show 8 - i = (7 - i) + 1 by omega, List.getElem?_cons_succ]; exact map_getD tl (7 - i) 0 (by omega)) rfl ?_
      refine TL.indexAddr (i) sl37 rfl rfl (by first | rfl | omega) (by omega) rfl ?_
      refine TL.store sz5 rfl rfl rfl (hh) (by first | omega | simp [Value.cells]) (by simp [Value.cells, Value.oneCell']) (.inl rfl) (fun ws1 hbs1 hcs1 hzs1 => ?_)
      replace hbs1 := hbs1.setOne rfl (by omega)
      rw [Nat.zero_add, Nat.mul_one] at hbs1
      refine TL.done ?_
      refine Blk.go ?_
      refine Thn.go ?_
      refine TC.region ?_
      refine TL.move rfl rfl ?_
      refine TL.add_i64 rfl rfl (by omega) (by omega) rfl ?_
      refine TL.assign rfl rfl ?_
      refine TL.done ?_
      refine Lp.go (i + 1) (by repeat (first | exact trivial | refine ⟨rfl, ?_⟩)) ?_ (by first | omega | (dsimp only; omega))
      refine ⟨by omega, ?_, hch.then1 hcs1 (Nat.le_refl _)⟩
      rw [← stB_step h8l hil, List.map_set]
      exact hown.store1 hh hbs1
    ·
      obtain rfl : i = 8 := by omega
      rw [stB_end h8l] at hown
      have hrl : (tl.take 8).reverse.length = 8 := by rw [List.length_reverse, hlt]
      refine TC.exit ?_
      refine Thn.exit ?_
      refine Lp.exit ?_
      refine Blk.hit ?_
      refine Thn.go ?_
      refine TC.seq ?_
      refine TC.region ?_
      refine TL.move rfl rfl ?_
      refine TL.call can46 rfl rfl (fn46 _ (tl.take 8).reverse w' (by rw [hrl]; exact Rd.ofOwn hown)) (fun v32 w32 hr32 => ?_)
      have hgn : Bits.getN (tl.take 8).reverse = num (tl.take 8) := by rw [Bits.getN, if_pos hrl, le_rev 8 _ hlt]
      rw [hgn] at hr32
      obtain ⟨rfl, e32⟩ := hr32
      subst e32
      refine TL.move rfl rfl ?_
      refine TL.extract rfl rfl rfl ?_
      refine TL.extract rfl rfl rfl ?_
      refine TL.assign rfl rfl ?_
      refine TL.assign rfl rfl ?_
      refine TL.done ?_
      refine Thn.go ?_
      refine TC.seq ?_
      refine TC.region ?_
      refine TL.move rfl rfl ?_
      refine TL.sub_u64 (b := 9223372036854775808) rfl rfl rfl ?_
      refine TL.conv (r := backI (num (tl.take 8))) Tryd.underlying53 Tryd.underlying2 rfl (back_sub (by omega)) rfl ?_
      refine TL.buildRec [0, 1] [.const (Value.int IntKind.u8 1), .tmp 37] (cl (numP (backI (num (tl.take 8))))) rfl rfl (by kernel_rfl) rfl ?_
      refine TL.store sz29 rfl rfl rfl (hb2.ch0 hch) (by simp [Value.cells, cl_len]) (by simpa [Value.cells] using cl_one (numP (backI (num (tl.take 8))))) (.inl rfl) (fun ws2 hbs2 hcs2 hzs2 => ?_)
      replace hbs2 : Has ws2 w.heap.size (cl (numP (backI (num (tl.take 8))))).toArray 29 (0, 0) := hbs2.setAll rfl
      refine TL.assign rfl rfl ?_
      refine TL.done ?_
      refine Thn.go ?_
      refine TC.ret ?_
      refine Thn.ret ?_
      refine Ends.cell2 (cl (numP (backI (num (tl.take 8))))) (.inl rfl) rfl ag29 rfl rfl (fun j _ => by rw [hbs2.cell, Nat.zero_add, List.getElem?_toArray]) rfl ?_
      exact ⟨by rw [hR]; rfl, (hc2.trans0 hch).then1 hcs2 (Nat.le_refl _)⟩
  ·
    have hn18 : ¬ (c = 1 ∧ 8 ≤ tl.length) := by assumption
    refine TC.skip ?_
    refine Thn.go ?_
    refine TC.seq ?_
    refine TC.seq ?_
    refine TC.region ?_
    refine TL.move rfl rfl ?_
    refine TL.indexStr (l := c :: tl) (j := 0) (b := c) Tryd.underlying9 rfl rfl rfl rfl rfl ?_
    refine TL.neq rfl rfl rfl ?_
    refine TL.done ?_
    refine Thn.go ?_
    refine TC.condP rfl (fun h5 => ?_) (fun h5 => ?_)
    ·
      have hc2n : ¬ c = 2 := fun e => absurd (congrArg (fun x : UInt8 => (x.toNat : Int)) e) (by assumption)
      have hR := oneR_none (show oneP (c :: tl) = none by rw [oneP, if_neg hn18, if_neg hc2n])
      refine TC.seq ?_
      refine TC.region ?_
      refine TL.buildRec [] [] (cl noP) rfl rfl (by kernel_rfl) rfl ?_
      refine TL.store sz29 rfl rfl rfl hb2 (by simp [Value.cells, cl_len]) (by simpa [Value.cells] using cl_one noP) (.inl rfl) (fun ws3 hbs3 hcs3 hzs3 => ?_)
      replace hbs3 : Has ws3 w.heap.size (cl noP).toArray 29 (0, 0) := hbs3.setAll rfl
      refine TL.assign rfl rfl ?_
      refine TL.done ?_
      refine Thn.go ?_
      refine TC.ret ?_
      refine Thn.ret ?_
      refine Ends.cell2 (cl noP) (.inl rfl) rfl ag29 rfl rfl (fun j _ => by rw [hbs3.cell, Nat.zero_add, List.getElem?_toArray]) rfl ?_
      exact ⟨by rw [hR]; rfl, hc2.then1 hcs3 (Nat.le_refl _)⟩
    ·
      have hceq : c = 2 := kind_eq.1 (Decidable.not_not.1 (by assumption))
      have honeT : oneP (c :: tl) = (unesc tl).map (fun p => (⟨2, 0, p.1⟩, p.2)) := by rw [oneP, if_neg hn18, if_pos hceq]
      refine TC.skip ?_
      refine Thn.go ?_
      refine TC.seq ?_
      refine TC.region ?_
      refine TL.assign rfl rfl ?_
      refine TL.done ?_
      refine Thn.go ?_
      refine TC.seq ?_
      refine TC.seq ?_
      refine TC.region ?_
      refine TL.assign rfl rfl ?_
      refine TL.done ?_
      refine Thn.go ?_
      refine TC.block ?_
      refine TC.loop3 (fun (i : Nat) (acc : List UInt8) (ov : Value) => [(0, str (c :: tl)), (2, .pointer (some ⟨w.heap.size, 0, none⟩)), (8, ov), (9, .int .i64 (i : Int))]) (fun i acc ov w' => 1 ≤ i ∧ i ≤ (c :: tl).length ∧ acc.length ≤ i ∧ unesc tl = (unesc ((c :: tl).drop i)).map (fun p => (acc ++ p.1, p.2)) ∧ Own w' w2.heap.size 5 1 ov acc.length (acc.map u8) ∧ Ch [] w2 w') (fun i _ _ => (c :: tl).length - i) 1 [] (.slice none 0 0) (by repeat (first | exact trivial | refine ⟨rfl, ?_⟩)) (⟨by omega, by omega, by simp, by show unesc tl = (unesc tl).map _; cases unesc tl <;> rfl, World.ownsRow_nil _ _ _ _, Ch.refl _ _⟩) (fun i acc ov w' hH => ?_)
      obtain ⟨hi1, hil, hal, hun, hown, hch⟩ := hH
      refine TC.seq ?_
      refine TC.seq ?_
      refine TC.region ?_
      refine TL.move rfl rfl ?_
      refine TL.add_i64 rfl rfl (by omega) (by omega) rfl ?_
      refine TL.move rfl rfl ?_
      refine TL.lenStr Tryd.underlying9 rfl rfl ?_
      refine TL.lss rfl rfl rfl ?_
      refine TL.done ?_
      refine Thn.go ?_
      refine TC.condP rfl (fun h6 => ?_) (fun h6 => ?_)
      ·
        have hi2 : i + 1 < (c :: tl).length := by omega
        obtain ⟨x, hx⟩ : ∃ x, (c :: tl)[i]'(by omega) = x := ⟨_, rfl⟩
        obtain ⟨y, hy⟩ : ∃ y, (c :: tl)[i + 1] = y := ⟨_, rfl⟩
        have hgx : (c :: tl)[i]? = some x := by rw [List.getElem?_eq_getElem (by omega), hx]
        have hgy : (c :: tl)[i + 1]? = some y := by rw [List.getElem?_eq_getElem hi2, hy]
        have hd1 : (c :: tl).drop (i + 1) = y :: (c :: tl).drop (i + 2) := by rw [drop_at hi2, hy]
        have hd0 : (c :: tl).drop i = x :: y :: (c :: tl).drop (i + 2) := by rw [drop_at (show i < (c :: tl).length by omega), hx, hd1]
        have kx0 : ((x.toNat : Int) = 0 ↔ x = 0) := kind_eq (y := 0)
        have ky1 : ((y.toNat : Int) = 1 ↔ y = 1) := kind_eq (y := 1)
        have ky2 : ((y.toNat : Int) = 255 ↔ y = 255) := kind_eq (y := 255)
        rw [hd0] at hun
        refine TC.skip ?_
        refine Thn.go ?_
        refine TC.seq ?_
        refine TC.block ?_
        refine TC.seq ?_
        refine TC.seq ?_
        refine TC.region ?_
        refine TL.move rfl rfl ?_
        refine TL.move rfl rfl ?_
        refine TL.indexStr Tryd.underlying9 rfl rfl rfl (hgx) rfl ?_
        refine TL.neq rfl rfl rfl ?_
        refine TL.done ?_
        refine Thn.go ?_
        refine TC.condP rfl (fun h7 => ?_) (fun h7 => ?_)
        ·
          have hx0 : ¬ x = 0 := fun e => absurd (kx0.2 e) (by assumption)
          have hs1 := hch.size
          refine TC.seq ?_
          refine TC.region ?_
          refine TL.move rfl rfl ?_
          refine TL.move rfl rfl ?_
          refine TL.move rfl rfl ?_
          refine TL.indexStr Tryd.underlying9 rfl rfl rfl (hgx) rfl ?_
          refine TL.buildSlice [.tmp 57] sl37 rfl rfl rfl (by decide) (by first | simp [Value.cells]; done | simp [Value.cells, cl_len]; done) rfl (fun w58 hb58 hc58 hz58 => ?_)
          have hs2 := hc58.size
          refine TL.append sl37 rfl rfl rfl (hown.ch0 hc58) (News.ofRd Tryd.underlying37 (Rd.byte _ hb58) (one_byte _)) (by omega) (by omega) (by omega) (fun v59 w59 hv59 hc59 _ => ?_)
          refine TL.assign rfl rfl ?_
          refine TL.done ?_
          refine Thn.go ?_
          refine TC.exit ?_
          refine Thn.exit ?_
          refine Blk.hit ?_
          refine Thn.go ?_
          refine TC.region ?_
          refine TL.move rfl rfl ?_
          refine TL.add_i64 rfl rfl (by omega) (by omega) rfl ?_
          refine TL.assign rfl rfl ?_
          refine TL.done ?_
          refine Lp.go ((i + 1, acc ++ [x], v59)) (by repeat (first | exact trivial | refine ⟨rfl, ?_⟩)) ?_ (by first | omega | (dsimp only; omega))
          refine ⟨by omega, by omega, by simp; omega, ?_, by rw [List.length_append, List.map_append]; exact hv59, (hown.ch0 hc58).thenCh (hch.trans0 hc58) hc59⟩
          rw [hun, unesc_other hx0, hd1, Option.map_map]
          congr 1; funext p; simp
        ·
          have hx0 : x = 0 := kx0.1 (Decidable.not_not.1 (by assumption))
          rw [hx0, unesc_zero] at hun
          refine TC.skip ?_
          refine Thn.go ?_
          refine TC.seq ?_
          refine TC.seq ?_
          refine TC.region ?_
          refine TL.move rfl rfl ?_
          refine TL.move rfl rfl ?_
          refine TL.add_i64 rfl rfl (by omega) (by omega) rfl ?_
          refine TL.indexStr (l := c :: tl) (j := i + 1) (b := y) Tryd.underlying9 rfl rfl (by omega) hgy rfl ?_
          refine TL.eql rfl rfl rfl ?_
          refine TL.done ?_
          refine Thn.go ?_
          refine TC.condP rfl (fun h8 => ?_) (fun h8 => ?_)
          ·
            have hy1 : y = 1 := ky1.1 (by assumption)
            rw [if_pos hy1] at hun
            have hR : oneR (c :: tl) = (wordP acc, i + 2) := by
              rw [oneR_some (show oneP (c :: tl) = some (wordP acc, (c :: tl).drop (i + 2)) by rw [honeT, hun]; simp [wordP]), List.length_drop]
              congr 1; omega
            obtain ⟨od, oc, rfl, _⟩ := hown.shape
            refine TC.seq ?_
            refine TC.region ?_
            refine TL.move rfl rfl ?_
            refine TL.bytesToStr (l := acc) Tryd.underlying37 Tryd.underlying5 Tryd.underlying9 rfl (Rd.ofOwn hown) rfl ?_
            refine TL.buildRec [0, 2] [.const (Value.int IntKind.u8 2), .tmp 66] (cl (wordP acc)) rfl rfl (by kernel_rfl) rfl ?_
            refine TL.move rfl rfl ?_
            refine TL.add_i64 rfl rfl (by omega) (by omega) rfl ?_
            refine TL.store sz29 rfl rfl rfl (hb2.ch0 hch) (by simp [Value.cells, cl_len]) (by simpa [Value.cells] using cl_one (wordP acc)) (.inl rfl) (fun ws4 hbs4 hcs4 hzs4 => ?_)
            replace hbs4 : Has ws4 w.heap.size (cl (wordP acc)).toArray 29 (0, 0) := hbs4.setAll rfl
            refine TL.assign rfl rfl ?_
            refine TL.done ?_
            refine Thn.go ?_
            refine TC.ret ?_
            refine Thn.ret ?_
            refine Blk.ret ?_
            refine Thn.ret ?_
            refine Lp.ret ?_
            refine Blk.ret ?_
            refine Thn.ret ?_
            refine Ends.cell2 (cl (wordP acc)) (.inl rfl) rfl ag29 rfl rfl (fun j _ => by rw [hbs4.cell, Nat.zero_add, List.getElem?_toArray]) rfl ?_
            exact ⟨by rw [hR]; rfl, (hc2.trans0 hch).then1 hcs4 (Nat.le_refl _)⟩
          ·
            have hy1 : ¬ y = 1 := fun e => absurd (ky1.2 e) (by assumption)
            rw [if_neg hy1] at hun
            refine TC.skip ?_
            refine Thn.go ?_
            refine TC.seq ?_
            refine TC.seq ?_
            refine TC.region ?_
            refine TL.move rfl rfl ?_
            refine TL.move rfl rfl ?_
            refine TL.add_i64 rfl rfl (by omega) (by omega) rfl ?_
            refine TL.indexStr (l := c :: tl) (j := i + 1) (b := y) Tryd.underlying9 rfl rfl (by omega) hgy rfl ?_
            refine TL.neq rfl rfl rfl ?_
            refine TL.done ?_
            refine Thn.go ?_
            refine TC.condP rfl (fun h9 => ?_) (fun h9 => ?_)
            ·
              have hy2 : ¬ y = 255 := fun e => absurd (ky2.2 e) (by assumption)
              rw [if_neg hy2] at hun
              have hR := oneR_none (show oneP (c :: tl) = none by rw [honeT, hun]; rfl)
              refine TC.seq ?_
              refine TC.region ?_
              refine TL.buildRec [] [] (cl noP) rfl rfl (by kernel_rfl) rfl ?_
              refine TL.store sz29 rfl rfl rfl (hb2.ch0 hch) (by simp [Value.cells, cl_len]) (by simpa [Value.cells] using cl_one noP) (.inl rfl) (fun ws5 hbs5 hcs5 hzs5 => ?_)
              replace hbs5 : Has ws5 w.heap.size (cl noP).toArray 29 (0, 0) := hbs5.setAll rfl
              refine TL.assign rfl rfl ?_
              refine TL.done ?_
              refine Thn.go ?_
              refine TC.ret ?_
              refine Thn.ret ?_
              refine Blk.ret ?_
              refine Thn.ret ?_
              refine Lp.ret ?_
              refine Blk.ret ?_
              refine Thn.ret ?_
              refine Ends.cell2 (cl noP) (.inl rfl) rfl ag29 rfl rfl (fun j _ => by rw [hbs5.cell, Nat.zero_add, List.getElem?_toArray]) rfl ?_
              exact ⟨by rw [hR]; rfl, (hc2.trans0 hch).then1 hcs5 (Nat.le_refl _)⟩
            ·
              have hy2 : y = 255 := ky2.1 (Decidable.not_not.1 (by assumption))
              rw [if_pos hy2] at hun
              have hs1 := hch.size
              have hl1 : [(0 : UInt8)].length = 1 := rfl
              refine TC.skip ?_
              refine Thn.go ?_
              refine TC.seq ?_
              refine TC.region ?_
              refine TL.move rfl rfl ?_
              refine TL.buildSlice (vs := [0].map u8) [.const (Value.int IntKind.u8 0)] sl37 rfl rfl rfl (by decide) (by first | simp [Value.cells]; done | simp [Value.cells, cl_len]; done) rfl (fun w77 hb77 hc77 hz77 => ?_)
              have hs2 := hc77.size
              refine TL.append sl37 rfl rfl rfl (hown.ch0 hc77) (News.ofRd Tryd.underlying37 (Rd.ofBytes [0] hb77 (by decide)) (one_u8 [0])) (by omega) (by omega) (by omega) (fun v78 w78 hv78 hc78 _ => ?_)
              refine TL.assign rfl rfl ?_
              refine TL.done ?_
              refine Thn.go ?_
              refine TC.region ?_
              refine TL.move rfl rfl ?_
              refine TL.add_i64 rfl rfl (by omega) (by omega) rfl ?_
              refine TL.assign rfl rfl ?_
              refine TL.done ?_
              refine Blk.go ?_
              refine Thn.go ?_
              refine TC.region ?_
              refine TL.move rfl rfl ?_
              refine TL.add_i64 rfl rfl (by omega) (by omega) rfl ?_
              refine TL.assign rfl rfl ?_
              refine TL.done ?_
              refine Lp.go ((i + 2, acc ++ [0], v78)) (by repeat (first | exact trivial | refine ⟨rfl, ?_⟩)) ?_ (by first | omega | (dsimp only; omega))
              refine ⟨by omega, by omega, by simp; omega, ?_, by rw [List.length_append, List.map_append]; exact hv78, (hown.ch0 hc77).thenCh (hch.trans0 hc77) hc78⟩
              rw [hun, Option.map_map]
              congr 1; funext p; simp
      ·
        have hnone := unesc_short ((c :: tl).drop i) (by rw [List.length_drop]; omega)
        rw [hnone] at hun
        have hR := oneR_none (show oneP (c :: tl) = none by rw [honeT, hun]; rfl)
        refine TC.exit ?_
        refine Thn.exit ?_
        refine Lp.exit ?_
        refine Blk.hit ?_
        refine Thn.go ?_
        refine TC.seq ?_
        refine TC.region ?_
        refine TL.buildRec [] [] (cl noP) rfl rfl (by kernel_rfl) rfl ?_
        refine TL.store sz29 rfl rfl rfl (hb2.ch0 hch) (by simp [Value.cells, cl_len]) (by simpa [Value.cells] using cl_one noP) (.inl rfl) (fun ws6 hbs6 hcs6 hzs6 => ?_)
        replace hbs6 : Has ws6 w.heap.size (cl noP).toArray 29 (0, 0) := hbs6.setAll rfl
        refine TL.assign rfl rfl ?_
        refine TL.done ?_
        refine Thn.go ?_
        refine TC.ret ?_
        refine Ends.cell2 (cl noP) (.inl rfl) rfl ag29 rfl rfl (fun j _ => by rw [hbs6.cell, Nat.zero_add, List.getElem?_toArray]) rfl ?_
        exact ⟨by rw [hR]; rfl, (hc2.trans0 hch).then1 hcs6 (Nat.le_refl _)⟩

theorem fn18 (s : List UInt8) (w : World) : Rets Tryd.prog 18 #[str s] w (fun r w' => ∃ o, r = .tuple #[o, .int .i64 (cutE s : Int)] ∧ Own w' w.heap.size 29 3 o (cutL s).length ((cutL s).flatMap cl) ∧ Ch [] w w') := by
  have hmm : maxLen = 9223372036854775807 := rfl
  refine Rets.of (n := 33) (vs := [_]) Tryd.func18 rfl rfl rfl ?_
  refine TC.seq ?_
  refine TC.region ?_
  refine TL.assign rfl rfl ?_
  refine TL.assign rfl rfl ?_
  refine TL.done ?_
  refine Thn.go ?_
  refine TC.seq ?_
  refine TC.seq ?_
  refine TC.region ?_
  refine TL.move rfl rfl ?_
  refine TL.lenStr Tryd.underlying9 rfl rfl ?_
  refine TL.gtr rfl rfl rfl ?_
  refine TL.done ?_
  refine Thn.go ?_
  refine TC.condP rfl (fun h1 => ?_) (fun h1 => ?_)
  ·
    have e1 : cutE s = 60 := if_pos (by omega)
    have e2 : cutL s = [] := if_neg (by omega)
    refine TC.seq ?_
    refine TC.region ?_
    refine TL.assign rfl rfl ?_
    refine TL.assign rfl rfl ?_
    refine TL.done ?_
    refine Thn.go ?_
    refine TC.ret ?_
    refine Thn.ret ?_
    refine Ends.ret [2, 3] rfl rfl ?_
    exact ⟨_, by rw [e1]; rfl, by rw [e2]; exact World.ownsRow_nil _ _ _ _, Ch.refl _ _⟩
  ·
    have h256 : ¬ 256 < s.length := by omega
    have bad : cutO 8 s = none → cutE s = 60 ∧ cutL s = [] := fun h => by
      have e1 : cutE s = 60 := by rw [cutE, if_neg h256, h]; rfl
      exact ⟨e1, if_neg (by omega)⟩
    refine TC.skip ?_
    refine Thn.go ?_
    refine TC.seq ?_
    refine TC.region ?_
    refine TL.assign rfl rfl ?_
    refine TL.done ?_
    refine Thn.go ?_
    refine TC.seq ?_
    refine TC.block ?_
    refine TC.loop3 (fun (rest : List UInt8) (m : List Part) (ov : Value) => [(0, str rest), (4, ov)]) (fun rest m ov w' => cutO 8 s = (cutO (8 - m.length) rest).map (m ++ ·) ∧ m.length ≤ 8 ∧ rest.length ≤ s.length ∧ Own w' w.heap.size 29 3 ov m.length (m.flatMap cl) ∧ Ch [] w w') (fun rest _ _ => rest.length) s [] (.slice none 0 0) (by repeat (first | exact trivial | refine ⟨rfl, ?_⟩)) (⟨by cases cutO 8 s <;> simp, by simp, Nat.le_refl _, World.ownsRow_nil _ _ _ _, Ch.refl _ _⟩) (fun rest m ov w' hI => ?_)
    obtain ⟨hco, hml, hrl, hown, hch⟩ := hI
    refine TC.seq ?_
    refine TC.seq ?_
    refine TC.region ?_
    refine TL.move rfl rfl ?_
    refine TL.lenStr Tryd.underlying9 rfl rfl ?_
    refine TL.gtr rfl rfl rfl ?_
    refine TL.done ?_
    refine Thn.go ?_
    refine TC.condP rfl (fun h2 => ?_) (fun h2 => ?_)
    ·
      have hrn : rest ≠ [] := by rintro rfl; simp at *
      have hst : ∀ p r, oneP rest = some (p, r) → m.length < 8 → cutO 8 s = (cutO (8 - (m ++ [p]).length) r).map ((m ++ [p]) ++ ·) := fun p r ho h8 => by
        obtain ⟨n, hn⟩ : ∃ n, 8 - m.length = n + 1 := ⟨7 - m.length, by omega⟩
        have e : 8 - (m ++ [p]).length = n := by simp; omega
        obtain ⟨c, tl, rfl⟩ : ∃ c tl, rest = c :: tl := by cases rest with
          | nil => exact absurd rfl hrn
          | cons c tl => exact ⟨c, tl, rfl⟩
        rw [hco, hn, cutO, ho, e]
        dsimp only
        rw [Option.map_map]; congr 1; funext q; simp
      have hno : oneP rest = none → cutO 8 s = none := fun ho => by
        obtain ⟨c, tl, rfl⟩ : ∃ c tl, rest = c :: tl := by cases rest with
          | nil => exact absurd rfl hrn
          | cons c tl => exact ⟨c, tl, rfl⟩
        rw [hco]
        cases h8 : 8 - m.length with
        | zero => rfl
        | succ n => rw [cutO, ho]; rfl
      have hfull : ¬ m.length < 8 → cutO 8 s = none := fun h8 => by
        obtain ⟨c, tl, rfl⟩ : ∃ c tl, rest = c :: tl := by cases rest with
          | nil => exact absurd rfl hrn
          | cons c tl => exact ⟨c, tl, rfl⟩
        rw [hco, show 8 - m.length = 0 by omega]; rfl
      refine TC.skip ?_
      refine Thn.go ?_
      refine TC.block ?_
      refine TC.seq ?_
      refine TC.region ?_
      refine TL.move rfl rfl ?_
      refine TL.call can38 rfl rfl (fn38 rest hrn (by omega) w') (fun v15 w15 hr15 => ?_)
      obtain ⟨rfl, hc15⟩ := hr15
      have hRz : (oneR rest).2 = 0 ↔ oneP rest = none := by
        cases ho : oneP rest with
        | none => rw [oneR_none ho]; simp
        | some q =>
          obtain ⟨p, r⟩ := q
          have h1 := congrArg List.length (part_one ho).1
          obtain ⟨x, y, hxy⟩ := part_cons p
          rw [hxy] at h1
          simp at h1
          rw [oneR_some ho]; simp; omega
      obtain ⟨pp, hpp⟩ : ∃ pp, (oneR rest).1 = pp := ⟨_, rfl⟩
      obtain ⟨nn, hnn⟩ : ∃ nn, (oneR rest).2 = nn := ⟨_, rfl⟩
      rw [hnn] at hRz
      rw [hpp, hnn]
      refine TL.move rfl rfl ?_
      refine TL.extract rfl rfl rfl ?_
      refine TL.extract rfl rfl rfl ?_
      refine TL.alloc ze29 rfl (fun w5 hb5 hc5 hz5 => ?_)
      refine TL.store sz29 rfl rfl rfl hb5 (by simp [Value.cells, cl_len]) (by simpa [Value.cells] using cl_one pp) (.inl rfl) (fun ws1 hbs1 hcs1 hzs1 => ?_)
      replace hbs1 : Has ws1 w15.heap.size (cl pp).toArray 29 (0, 0) := hbs1.setAll rfl
      have q1 : Ch [] w' ws1 := (hc15.trans0 hc5).then1 hcs1 hc15.size
      obtain ⟨od, oc, rfl, _⟩ := hown.shape
      refine TL.assign rfl rfl ?_
      refine TL.done ?_
      refine Thn.go ?_
      refine TC.seq ?_
      refine TC.regionBool (d := 24) (p := (nn = 0 ∨ m.length = 8)) (fun K3 hK3 => ?_) ?_
      ·
        refine TL.move rfl rfl ?_
        refine TL.eql rfl rfl rfl ?_
        refine TL.em (fun e19 => ?_) (fun e19 => ?_)
        ·
          refine TL.move rfl rfl ?_
          refine TL.guardNo (d := 20) rfl rfl rfl rfl rfl ?_
          refine TL.guardNo (d := 20) rfl rfl rfl rfl rfl ?_
          refine TL.guardNo (d := 20) rfl rfl rfl rfl rfl ?_
          refine TL.pickT rfl rfl rfl rfl ?_
          refine TL.done ?_
          refine hK3 _ ?_
          refine Le.here rfl (by first | exact decide_eq_true (by omega) | exact decide_eq_false (by omega) | exact decide_eq_decide.2 (by omega) | exact decide_eq_true (by grind) | exact decide_eq_false (by grind) | exact decide_eq_decide.2 (by grind)) ?_
          repeat (first | exact Le.refl _ | refine Le.skip rfl ?_)
        ·
          refine TL.move rfl rfl ?_
          refine TL.guardYes (d := 20) rfl rfl rfl ?_
          refine TL.move rfl rfl ?_
          refine TL.guardYes (d := 20) rfl rfl rfl ?_
          refine TL.lenSlice Tryd.underlying22 rfl rfl ?_
          refine TL.guardYes (d := 20) rfl rfl rfl ?_
          refine TL.eql rfl rfl rfl ?_
          refine TL.pickF rfl rfl rfl rfl ?_
          refine TL.done ?_
          refine hK3 _ ?_
          refine Le.here rfl (by first | exact decide_eq_true (by omega) | exact decide_eq_false (by omega) | exact decide_eq_decide.2 (by omega) | exact decide_eq_true (by grind) | exact decide_eq_false (by grind) | exact decide_eq_decide.2 (by grind)) ?_
          repeat (first | exact Le.refl _ | refine Le.skip rfl ?_)
      refine TC.condP rfl (fun h5 => ?_) (fun h5 => ?_)
      ·
        have hnc : cutO 8 s = none := by
          rcases (show nn = 0 ∨ m.length = 8 by assumption) with h | h
          · exact hno (hRz.1 h)
          · exact hfull (by omega)
        obtain ⟨x1, x2⟩ := bad hnc
        refine TC.seq ?_
        refine TC.region ?_
        refine TL.assign rfl rfl ?_
        refine TL.assign rfl rfl ?_
        refine TL.done ?_
        refine Thn.go ?_
        refine TC.ret ?_
        refine Thn.ret ?_
        refine Blk.ret ?_
        refine Lp.ret ?_
        refine Blk.ret ?_
        refine Thn.ret ?_
        refine Ends.ret [2, 3] rfl rfl ?_
        exact ⟨_, by rw [x1]; rfl, by rw [x2]; exact World.ownsRow_nil _ _ _ _, hch.trans0 q1⟩
      ·
        have hm8 : m.length < 8 := by omega
        have hnz : ¬ oneP rest = none := fun e => absurd (hRz.2 e) (by omega)
        obtain ⟨⟨p, r⟩, ho⟩ := Option.ne_none_iff_exists'.1 hnz
        rw [oneR_some ho] at hpp hnn
        dsimp only at hpp hnn
        subst hpp
        have hpo := (part_one ho).1
        have hlr : rest.length = (Key.part p).length + r.length := by rw [hpo, List.length_append]
        have hdr : rest.drop nn = r := by rw [← hnn, hlr, Nat.add_sub_cancel]; rw [hpo, List.drop_left]
        have hlp : 0 < (Key.part p).length := by obtain ⟨x, y, hxy⟩ := part_cons p; rw [hxy]; simp
        refine TC.skip ?_
        refine Thn.go ?_
        refine TC.seq ?_
        refine TC.region ?_
        refine TL.move rfl rfl ?_
        refine TL.loadAgg (cl p) ag29 rfl rfl (fun j _ => by rw [hbs1.cell, Nat.zero_add, List.getElem?_toArray]) rfl ?_
        refine TL.buildSlice [.tmp 26] sl22 rfl rfl rfl (by decide) (by first | simp [Value.cells]; done | simp [Value.cells, cl_len]; done) rfl (fun w27 hb27 hc27 hz27 => ?_)
        have hs1 := hch.size
        have hs2 := q1.size
        have hs3 := hc27.size
        refine TL.append sl22 rfl rfl rfl ((hown.ch0 q1).ch0 hc27) (News.ofRd Tryd.underlying22 (recOne hb27) (rows_one _)) (by omega) (by omega) (by omega) (fun v28 w28 hv28 hc28 _ => ?_)
        obtain ⟨d28, p28, rfl⟩ := hv28.shape
        refine TL.assign rfl rfl ?_
        refine TL.done ?_
        refine Thn.go ?_
        refine TC.region ?_
        refine TL.move rfl rfl ?_
        refine TL.move rfl rfl ?_
        refine TL.strFrom (j := nn) Tryd.underlying9 rfl rfl rfl (by omega) rfl ?_
        rw [hdr]
        refine TL.assign rfl rfl ?_
        refine TL.done ?_
        refine Blk.go ?_
        refine Lp.go ((r, m ++ [p], .slice d28 (m.length + 1) p28)) (by repeat (first | exact trivial | refine ⟨rfl, ?_⟩)) ?_ (by first | omega | (dsimp only; omega))
        refine ⟨hst _ _ ho hm8, by simp; omega, by show r.length ≤ s.length; omega, ?_, ((hown.ch0 q1).ch0 hc27).thenCh (hch.trans0 (q1.trans0 hc27)) hc28⟩
        rw [List.length_append, List.flatMap_append]; exact hv28
    ·
      obtain rfl : rest = [] := List.eq_nil_of_length_eq_zero (by omega)
      have hsome : cutO 8 s = some m := by rw [hco]; cases 8 - m.length <;> simp [cutO]
      have e1 : cutE s = 0 := by rw [cutE, if_neg h256, hsome]; rfl
      have e2 : cutL s = m := by rw [cutL, if_pos e1, hsome]; rfl
      refine TC.exit ?_
      refine Thn.exit ?_
      refine Lp.exit ?_
      refine Blk.hit ?_
      refine Thn.go ?_
      refine TC.seq ?_
      refine TC.region ?_
      refine TL.move rfl rfl ?_
      refine TL.assign rfl rfl ?_
      refine TL.assign rfl rfl ?_
      refine TL.done ?_
      refine Thn.go ?_
      refine TC.ret ?_
      refine Ends.ret [2, 3] rfl rfl ?_
      exact ⟨_, by rw [e1]; rfl, by rw [e2]; exact hown, hch⟩

