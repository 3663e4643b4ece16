/-
  Walks through the given program: each theorem fnN says what the call of function N of the translation hands back, for all arguments that its premises describe, and that nothing that was there has turned.
-/
import Derived.Test.YtkgckmdhlokjmaaDoorB7
namespace Go.Proofs.YtkgckmdhlokjmaaDoor
open Go.Lane
open Go.Key
open Go.RowKit (Below)
theorem can36 : Callable Tryd.prog 36 := ⟨Tryd.f36, Tryd.func36, by kernel_rfl, rfl⟩
theorem can37 : Callable Tryd.prog 37 := ⟨Tryd.f37, Tryd.func37, by kernel_rfl, rfl⟩
theorem can45 : Callable Tryd.prog 45 := ⟨Tryd.f45, Tryd.func45, by kernel_rfl, rfl⟩
theorem esc_app : ∀ a b : List UInt8, esc (a ++ b) = esc a ++ esc b
  | [], _ => rfl
  | c :: r, b => by
    rw [List.cons_append, esc, esc, esc_app r b]
    split <;> rfl
theorem take_snoc {α : Type} {l : List α} {k : Nat} (h : k < l.length) : l.take (k + 1) = l.take k ++ [l[k]] := by
  rw [List.take_add_one, List.getElem?_eq_getElem h]; rfl

theorem fn36 (p : Part) (w : World) : Rets Tryd.prog 36 #[.agg (cl p).toArray] w (fun v w' => v = .bool (decide (Key.may p)) ∧ Ch [] w w') := by
  refine Rets.of (n := 21) (vs := [_]) Tryd.func36 rfl rfl rfl ?_
  refine TC.seq ?_
  refine TC.region ?_
  refine TL.box rfl rfl (fun w1 hb1 hc1 hz1 => ?_)
  replace hb1 : Has w1 w.heap.size (cl p).toArray 29 (0, 0) := hb1
  have k1 : (((p.kind).toNat : Int) = 1 ↔ p.kind = 1) := kind_eq (y := 1)
  have k2 : (((p.kind).toNat : Int) = 2 ↔ p.kind = 2) := kind_eq (y := 2)
  have hmd : Key.may p ↔ (p.kind = 1 ∧ p.text = []) ∨ (p.kind = 2 ∧ p.int = 0) := Iff.rfl
  refine TL.assign rfl rfl ?_
  refine TL.done ?_
  refine Thn.go ?_
  refine TC.cut0 ([(2, .bool (decide (Key.may p)))]) (fun w' => w' = w1) (fun K1 hK1 => ?_) (fun w' hH => ?_)
  ·
    refine TC.region ?_
    refine TL.fieldAddr fd29k0 rfl rfl ?_
    refine TL.load pl5 rfl (hb1.cell _) rfl ?_
    refine TL.eql rfl rfl rfl ?_
    refine TL.em (fun e5 => ?_) (fun e5 => ?_)
    ·
      refine TL.move rfl rfl ?_
      refine TL.guardYes (d := 6) rfl rfl rfl ?_
      refine TL.fieldAddr fd29k2 rfl rfl ?_
      refine TL.guardYes (d := 6) rfl rfl rfl ?_
      refine TL.load pl9 rfl (hb1.cell _) rfl ?_
      refine TL.guardYes (d := 6) rfl rfl rfl ?_
      refine TL.eqlStr rfl rfl rfl ?_
      refine TL.em (fun e9 => ?_) (fun e9 => ?_)
      ·
        refine TL.pickT rfl rfl rfl rfl ?_
        refine TL.move rfl rfl ?_
        refine TL.guardNo (d := 11) rfl rfl rfl rfl rfl ?_
        refine TL.guardNo (d := 11) rfl rfl rfl rfl rfl ?_
        refine TL.guardNo (d := 11) rfl rfl rfl rfl rfl ?_
        refine TL.guardNo (d := 11) rfl rfl rfl rfl rfl ?_
        refine TL.guardUndef (d := 15) rfl rfl rfl rfl ?_
        refine TL.guardUndef (d := 15) rfl rfl rfl rfl ?_
        refine TL.guardUndef (d := 15) rfl rfl rfl rfl ?_
        refine TL.guardNo (d := 11) rfl rfl rfl rfl rfl ?_
        refine TL.pickT rfl rfl rfl rfl ?_
        refine TL.assign rfl rfl ?_
        refine TL.done ?_
        exact hK1  _ _ (by repeat (first | exact trivial | refine ⟨rfl, ?_⟩ | refine ⟨congrArg (fun b => some (Value.bool b)) (by first | exact (decide_eq_true (by grind)).symm | exact (decide_eq_false (by grind)).symm | exact decide_eq_decide.2 (by grind) | exact decide_eq_true (by grind) | exact decide_eq_false (by grind) | (exfalso; grind)), ?_⟩)) (rfl)
      ·
        refine TL.pickT rfl rfl rfl rfl ?_
        refine TL.move rfl rfl ?_
        refine TL.guardYes (d := 11) rfl rfl rfl ?_
        refine TL.fieldAddr fd29k0 rfl rfl ?_
        refine TL.guardYes (d := 11) rfl rfl rfl ?_
        refine TL.load pl5 rfl (hb1.cell _) rfl ?_
        refine TL.guardYes (d := 11) rfl rfl rfl ?_
        refine TL.eql rfl rfl rfl ?_
        refine TL.em (fun e14 => ?_) (fun e14 => ?_)
        ·
          refine TL.guardYes (d := 11) rfl rfl rfl ?_
          refine TL.move rfl rfl ?_
          refine TL.guardYes (d := 15) rfl rfl rfl ?_
          refine TL.fieldAddr fd29k1 rfl rfl ?_
          refine TL.guardYes (d := 15) rfl rfl rfl ?_
          refine TL.load pl2 rfl (hb1.cell _) rfl ?_
          refine TL.guardYes (d := 15) rfl rfl rfl ?_
          refine TL.eql rfl rfl rfl ?_
          refine TL.guardYes (d := 11) rfl rfl rfl ?_
          refine TL.pickT rfl rfl rfl rfl ?_
          refine TL.pickF rfl rfl rfl rfl ?_
          refine TL.assign rfl rfl ?_
          refine TL.done ?_
          exact hK1  _ _ (by repeat (first | exact trivial | refine ⟨rfl, ?_⟩ | refine ⟨congrArg (fun b => some (Value.bool b)) (by first | exact (decide_eq_true (by grind)).symm | exact (decide_eq_false (by grind)).symm | exact decide_eq_decide.2 (by grind) | exact decide_eq_true (by grind) | exact decide_eq_false (by grind) | (exfalso; grind)), ?_⟩)) (rfl)
        ·
          refine TL.guardYes (d := 11) rfl rfl rfl ?_
          refine TL.move rfl rfl ?_
          refine TL.guardNo (d := 15) rfl rfl rfl rfl rfl ?_
          refine TL.guardNo (d := 15) rfl rfl rfl rfl rfl ?_
          refine TL.guardNo (d := 15) rfl rfl rfl rfl rfl ?_
          refine TL.guardYes (d := 11) rfl rfl rfl ?_
          refine TL.pickF rfl rfl rfl rfl ?_
          refine TL.pickF rfl rfl rfl rfl ?_
          refine TL.assign rfl rfl ?_
          refine TL.done ?_
          exact hK1  _ _ (by repeat (first | exact trivial | refine ⟨rfl, ?_⟩ | refine ⟨congrArg (fun b => some (Value.bool b)) (by first | exact (decide_eq_true (by grind)).symm | exact (decide_eq_false (by grind)).symm | exact decide_eq_decide.2 (by grind) | exact decide_eq_true (by grind) | exact decide_eq_false (by grind) | (exfalso; grind)), ?_⟩)) (rfl)
    ·
      refine TL.move rfl rfl ?_
      refine TL.guardNo (d := 6) rfl rfl rfl rfl rfl ?_
      refine TL.guardNo (d := 6) rfl rfl rfl rfl rfl ?_
      refine TL.guardNo (d := 6) rfl rfl rfl rfl rfl ?_
      refine TL.pickF rfl rfl rfl rfl ?_
      refine TL.move rfl rfl ?_
      refine TL.guardYes (d := 11) rfl rfl rfl ?_
      refine TL.fieldAddr fd29k0 rfl rfl ?_
      refine TL.guardYes (d := 11) rfl rfl rfl ?_
      refine TL.load pl5 rfl (hb1.cell _) rfl ?_
      refine TL.guardYes (d := 11) rfl rfl rfl ?_
      refine TL.eql rfl rfl rfl ?_
      refine TL.em (fun e14 => ?_) (fun e14 => ?_)
      ·
        refine TL.guardYes (d := 11) rfl rfl rfl ?_
        refine TL.move rfl rfl ?_
        refine TL.guardYes (d := 15) rfl rfl rfl ?_
        refine TL.fieldAddr fd29k1 rfl rfl ?_
        refine TL.guardYes (d := 15) rfl rfl rfl ?_
        refine TL.load pl2 rfl (hb1.cell _) rfl ?_
        refine TL.guardYes (d := 15) rfl rfl rfl ?_
        refine TL.eql rfl rfl rfl ?_
        refine TL.guardYes (d := 11) rfl rfl rfl ?_
        refine TL.pickT rfl rfl rfl rfl ?_
        refine TL.pickF rfl rfl rfl rfl ?_
        refine TL.assign rfl rfl ?_
        refine TL.done ?_
        exact hK1  _ _ (by repeat (first | exact trivial | refine ⟨rfl, ?_⟩ | refine ⟨congrArg (fun b => some (Value.bool b)) (by first | exact (decide_eq_true (by grind)).symm | exact (decide_eq_false (by grind)).symm | exact decide_eq_decide.2 (by grind) | exact decide_eq_true (by grind) | exact decide_eq_false (by grind) | (exfalso; grind)), ?_⟩)) (rfl)
      ·
        refine TL.guardYes (d := 11) rfl rfl rfl ?_
        refine TL.move rfl rfl ?_
        refine TL.guardNo (d := 15) rfl rfl rfl rfl rfl ?_
        refine TL.guardNo (d := 15) rfl rfl rfl rfl rfl ?_
        refine TL.guardNo (d := 15) rfl rfl rfl rfl rfl ?_
        refine TL.guardYes (d := 11) rfl rfl rfl ?_
        refine TL.pickF rfl rfl rfl rfl ?_
        refine TL.pickF rfl rfl rfl rfl ?_
        refine TL.assign rfl rfl ?_
        refine TL.done ?_
        exact hK1  _ _ (by repeat (first | exact trivial | refine ⟨rfl, ?_⟩ | refine ⟨congrArg (fun b => some (Value.bool b)) (by first | exact (decide_eq_true (by grind)).symm | exact (decide_eq_false (by grind)).symm | exact decide_eq_decide.2 (by grind) | exact decide_eq_true (by grind) | exact decide_eq_false (by grind) | (exfalso; grind)), ?_⟩)) (rfl)
  ·
    refine TC.ret ?_
    refine Ends.ret [2] rfl rfl ?_
    subst hH
    exact ⟨rfl, hc1⟩

theorem fn37 (p : Part) (hi : inI p.int) (ht : p.text.length ≤ 256) (w : World) : Rets Tryd.prog 37 #[.agg (cl p).toArray] w (fun v w' => Own w' w.heap.size 5 1 v (Key.part p).length ((Key.part p).map u8) ∧ Ch [] w w') := by
  have hmm : maxLen = 9223372036854775807 := rfl
  refine Rets.of (n := 55) (vs := [_]) Tryd.func37 rfl rfl rfl ?_
  refine TC.seq ?_
  refine TC.region ?_
  refine TL.box rfl rfl (fun w1 hb1 hc1 hz1 => ?_)
  replace hb1 : Has w1 w.heap.size (cl p).toArray 29 (0, 0) := hb1
  refine TL.assign rfl rfl ?_
  refine TL.done ?_
  refine Thn.go ?_
  refine TC.seq ?_
  refine TC.seq ?_
  refine TC.region ?_
  refine TL.fieldAddr fd29k0 rfl rfl ?_
  refine TL.load pl5 rfl (hb1.cell _) rfl ?_
  refine TL.eql rfl rfl rfl ?_
  refine TL.done ?_
  refine Thn.go ?_
  refine TC.condP rfl (fun h1 => ?_) (fun h1 => ?_)
  ·
    have hk : p.kind = 1 := kind_eq.1 (by assumption)
    refine TC.seq ?_
    refine TC.region ?_
    refine TL.fieldAddr fd29k1 rfl rfl ?_
    refine TL.load pl2 rfl (hb1.cell _) rfl ?_
    refine TL.convI_u64 Tryd.underlying2 Tryd.underlying53 rfl rfl ?_
    refine TL.add_u64 (b := 9223372036854775808) rfl rfl rfl ?_
    refine TL.call can45 rfl rfl (fn45 _ w1) (fun v15 w15 hr15 => ?_)
    obtain ⟨hv15, hc15⟩ := hr15
    rw [← xor_add] at hv15
    obtain ⟨B, hB⟩ : ∃ B, B = Bits.put (UInt64.ofNat (p.int % 18446744073709551616).toNat ^^^ 9223372036854775808) := ⟨_, rfl⟩
    rw [← hB] at hv15
    have hBr : B.reverse = beN 8 (offI p.int) := by rw [hB, be_put, off_xor hi]
    have hBl : B.length = 8 := by rw [hB, Bits.put_len]
    obtain ⟨bd, bc, rfl, _⟩ := hv15.shape
    refine TL.assign rfl rfl ?_
    refine TL.done ?_
    refine Thn.go ?_
    refine TC.seq ?_
    refine TC.region ?_
    refine TL.buildSlice (vs := [1].map u8) [.const (Value.int IntKind.u8 1)] sl37 rfl rfl rfl (by decide) (by first | simp [Value.cells]; done | simp [Value.cells, cl_len]; done) rfl (fun w16 hb16 hc16 hz16 => ?_)
    have ho16 : Own w16 w15.heap.size 5 1 (.slice (some ⟨w15.heap.size, 0, none⟩) 1 1) 1 ([1].map u8) := Own.ofBytes [1] hb16 (Nat.le_refl _) (by decide)
    refine TL.assign rfl rfl ?_
    refine TL.done ?_
    refine Thn.go ?_
    refine TC.seq ?_
    refine TC.seq ?_
    refine TC.region ?_
    refine TL.assign rfl rfl ?_
    refine TL.done ?_
    refine Thn.go ?_
    refine TC.block ?_
    refine TC.loop2 (fun (i : Nat) (ov : Value) => [(3, .slice bd B.length bc), (4, ov), (5, .int .i64 ((i : Int) - 1))]) (fun i ov w' => i ≤ 8 ∧ Own w' w15.heap.size 5 1 ov (9 - i) ((1 :: (B.drop i).reverse).map u8) ∧ Ch [] w15 w') (fun i _ => i) 8 (.slice (some ⟨w15.heap.size, 0, none⟩) 1 1) (by repeat (first | exact trivial | refine ⟨rfl, ?_⟩)) (⟨by omega, by rw [List.drop_of_length_le (by omega)]; exact ho16, hc16⟩) (fun i ov w' hH => ?_)
    obtain ⟨hil, hown, hch⟩ := hH
    refine TC.seq ?_
    refine TC.seq ?_
    refine TC.region ?_
    refine TL.move rfl rfl ?_
    refine TL.geq rfl rfl rfl ?_
    refine TL.done ?_
    refine Thn.go ?_
    refine TC.condP rfl (fun h2 => ?_) (fun h2 => ?_)
    ·
      have hi1 : 1 ≤ i := by omega
      have hib : i - 1 < B.length := by omega
      obtain ⟨b1, o1, rfl, hce⟩ := ((Rd.ofOwn hv15).ch0 hch).at0 hib
      rw [List.getElem?_map, List.getElem?_eq_getElem hib] at hce
      refine TC.skip ?_
      refine Thn.go ?_
      refine TC.seq ?_
      refine TC.block ?_
      refine TC.region ?_
      refine TL.move rfl rfl ?_
      refine TL.move rfl rfl ?_
      refine TL.move rfl rfl ?_
      refine TL.indexAddr (i - 1) sl37 rfl rfl (by first | rfl | omega) (by omega) rfl ?_
      refine TL.load pl5 rfl ((show _ = some (u8 B[i - 1]) from by rw [Nat.mul_one]; exact hce)) rfl ?_
      refine TL.buildSlice [.tmp 25] sl37 rfl rfl rfl (by decide) (by first | simp [Value.cells]; done | simp [Value.cells, cl_len]; done) rfl (fun w26 hb26 hc26 hz26 => ?_)
      have hs1 := hch.size
      have hs2 := hc26.size
      refine TL.append sl37 rfl rfl rfl (hown.ch0 hc26) (News.ofRd Tryd.underlying37 (Rd.byte _ hb26) (one_byte _)) (by omega) (by omega) (by omega) (fun v27 w27 hv27 hc27 _ => ?_)
      refine TL.assign rfl rfl ?_
      refine TL.done ?_
      refine Blk.go ?_
      refine Thn.go ?_
      refine TC.region ?_
      refine TL.move rfl rfl ?_
      refine TL.sub_i64 rfl rfl (by omega) (by omega) rfl ?_
      refine TL.top (v' := .int .i64 (((i - 1 : Nat) : Int) - 1)) (by congr 1; omega) ?_
      refine TL.assign rfl rfl ?_
      refine TL.done ?_
      refine Lp.go ((i - 1, v27)) (by repeat (first | exact trivial | refine ⟨rfl, ?_⟩)) ?_ (by first | omega | (dsimp only; omega))
      refine ⟨by omega, ?_, (hown.ch0 hc26).thenCh (hch.trans0 hc26) hc27⟩
      have e : B.drop (i - 1) = B[i - 1] :: B.drop i := by rw [drop_at hib, show i - 1 + 1 = i by omega]
      have e2 : 9 - (i - 1) = 9 - i + 1 := by omega
      rw [e, List.reverse_cons, ← List.cons_append, List.map_append, e2]
      exact hv27
    ·
      obtain rfl : i = 0 := by omega
      have e : Key.part p = 1 :: B.reverse := by rw [hBr, Key.part, if_pos hk]
      have e3 : (1 :: B.reverse).length = 9 := by simp [hBl]
      refine TC.exit ?_
      refine Thn.exit ?_
      refine Lp.exit ?_
      refine Blk.hit ?_
      refine Thn.go ?_
      refine TC.seq ?_
      refine TC.region ?_
      refine TL.move rfl rfl ?_
      refine TL.assign rfl rfl ?_
      refine TL.done ?_
      refine Thn.go ?_
      refine TC.ret ?_
      refine Thn.ret ?_
      refine Ends.ret [2] rfl rfl ?_
      exact ⟨by rw [e, e3]; exact Own.base hown (by have := hc1.size; have := hc15.size; omega), (hc1.trans0 hc15).trans0 hch⟩
  ·
    have hk : ¬ p.kind = 1 := fun e => absurd (congrArg (fun x : UInt8 => (x.toNat : Int)) e) (by assumption)
    refine TC.skip ?_
    refine Thn.go ?_
    refine TC.seq ?_
    refine TC.region ?_
    refine TL.buildSlice (vs := [2].map u8) [.const (Value.int IntKind.u8 2)] sl37 rfl rfl rfl (by decide) (by first | simp [Value.cells]; done | simp [Value.cells, cl_len]; done) rfl (fun w29 hb29 hc29 hz29 => ?_)
    have ho29 : Own w29 w1.heap.size 5 1 (.slice (some ⟨w1.heap.size, 0, none⟩) 1 1) 1 ([2].map u8) := Own.ofBytes [2] hb29 (Nat.le_refl _) (by decide)
    refine TL.assign rfl rfl ?_
    refine TL.done ?_
    refine Thn.go ?_
    refine TC.seq ?_
    refine TC.seq ?_
    refine TC.region ?_
    refine TL.assign rfl rfl ?_
    refine TL.done ?_
    refine Thn.go ?_
    refine TC.block ?_
    refine TC.loop2 (fun (k : Nat) (ov : Value) => [(1, .pointer (some ⟨w.heap.size, 0, none⟩)), (6, ov), (7, .int .i64 (k : Int))]) (fun k ov w' => k ≤ p.text.length ∧ Own w' w1.heap.size 5 1 ov ((esc (p.text.take k)).length + 1) ((2 :: esc (p.text.take k)).map u8) ∧ Ch [] w1 w') (fun k _ => p.text.length - k) 0 (.slice (some ⟨w1.heap.size, 0, none⟩) 1 1) (by repeat (first | exact trivial | refine ⟨rfl, ?_⟩)) (⟨by omega, ho29, hc29⟩) (fun k ov w' hH => ?_)
    obtain ⟨hkl, hown, hch⟩ := hH
    have htk : (p.text.take k).length = k := by rw [List.length_take]; omega
    have hel := esc_le2 (p.text.take k)
    refine TC.seq ?_
    refine TC.seq ?_
    refine TC.region ?_
    refine TL.move rfl rfl ?_
    refine TL.fieldAddr fd29k2 rfl rfl ?_
    refine TL.load pl9 rfl ((hb1.ch0 hch).cell _) rfl ?_
    refine TL.lenStr Tryd.underlying9 rfl rfl ?_
    refine TL.lss rfl rfl rfl ?_
    refine TL.done ?_
    refine Thn.go ?_
    refine TC.condP rfl (fun h3 => ?_) (fun h3 => ?_)
    ·
      have hkt : k < p.text.length := by omega
      have hsn := take_snoc hkt
      refine TC.skip ?_
      refine Thn.go ?_
      refine TC.seq ?_
      refine TC.block ?_
      refine TC.seq ?_
      refine TC.region ?_
      refine TL.move rfl rfl ?_
      refine TL.fieldAddr fd29k2 rfl rfl ?_
      refine TL.load pl9 rfl ((hb1.ch0 hch).cell _) rfl ?_
      refine TL.move rfl rfl ?_
      refine TL.indexStr Tryd.underlying9 rfl rfl rfl (List.getElem?_eq_getElem hkt) rfl ?_
      refine TL.buildSlice [.tmp 41] sl37 rfl rfl rfl (by decide) (by first | simp [Value.cells]; done | simp [Value.cells, cl_len]; done) rfl (fun w42 hb42 hc42 hz42 => ?_)
      have hs1 := hch.size
      have hs2 := hc42.size
      refine TL.append sl37 rfl rfl rfl (hown.ch0 hc42) (News.ofRd Tryd.underlying37 (Rd.byte _ hb42) (one_byte _)) (by omega) (by omega) (by omega) (fun v43 w43 hv43 hc43 _ => ?_)
      have q43 : Ch [] w1 w43 := (hown.ch0 hc42).thenCh (hch.trans0 hc42) hc43
      refine TL.assign rfl rfl ?_
      refine TL.done ?_
      refine Thn.go ?_
      refine TC.seq ?_
      refine TC.region ?_
      refine TL.fieldAddr fd29k2 rfl rfl ?_
      refine TL.load pl9 rfl ((hb1.ch0 q43).cell _) rfl ?_
      refine TL.move rfl rfl ?_
      refine TL.indexStr Tryd.underlying9 rfl rfl rfl (List.getElem?_eq_getElem hkt) rfl ?_
      refine TL.eql rfl rfl rfl ?_
      refine TL.done ?_
      refine Thn.go ?_
      refine TC.condP rfl (fun h4 => ?_) (fun h4 => ?_)
      ·
        have hc0 : p.text[k] = 0 := kind_eq.1 (by assumption)
        refine TC.region ?_
        refine TL.move rfl rfl ?_
        refine TL.buildSlice (vs := [255].map u8) [.const (Value.int IntKind.u8 255)] sl37 rfl rfl rfl (by decide) (by first | simp [Value.cells]; done | simp [Value.cells, cl_len]; done) rfl (fun w50 hb50 hc50 hz50 => ?_)
        have hs1 := q43.size
        have hs2 := hc50.size
        have hl1 : [(255 : UInt8)].length = 1 := rfl
        refine TL.append sl37 rfl rfl rfl (hv43.ch0 hc50) (News.ofRd Tryd.underlying37 (Rd.ofBytes [255] hb50 (by decide)) (one_u8 [255])) (by omega) (by omega) (by omega) (fun v51 w51 hv51 hc51 _ => ?_)
        refine TL.assign rfl rfl ?_
        refine TL.done ?_
        refine Blk.go ?_
        refine Thn.go ?_
        refine TC.region ?_
        refine TL.move rfl rfl ?_
        refine TL.add_i64 rfl rfl (by omega) (by omega) rfl ?_
        refine TL.assign rfl rfl ?_
        refine TL.done ?_
        refine Lp.go ((k + 1, v51)) (by repeat (first | exact trivial | refine ⟨rfl, ?_⟩)) ?_ (by first | omega | (dsimp only; omega))
        refine ⟨by omega, ?_, (hv43.ch0 hc50).thenCh (q43.trans0 hc50) hc51⟩
        have e : esc (p.text.take (k + 1)) = esc (p.text.take k) ++ [0, 255] := by rw [hsn, esc_app, hc0]; rfl
        have e2 : (2 :: (esc (p.text.take k) ++ [0, 255])).map u8 = ((2 :: esc (p.text.take k)).map u8 ++ [u8 p.text[k]]) ++ [255].map u8 := by rw [hc0]; simp
        have e3 : (esc (p.text.take k) ++ [0, 255]).length + 1 = (esc (p.text.take k)).length + 1 + 1 + 1 := by simp
        rw [e, e2, e3]
        exact hv51
      ·
        have hc0 : ¬ p.text[k] = 0 := fun e => absurd (congrArg (fun x : UInt8 => (x.toNat : Int)) e) (by assumption)
        refine TC.skip ?_
        refine Blk.go ?_
        refine Thn.go ?_
        refine TC.region ?_
        refine TL.move rfl rfl ?_
        refine TL.add_i64 rfl rfl (by omega) (by omega) rfl ?_
        refine TL.assign rfl rfl ?_
        refine TL.done ?_
        refine Lp.go ((k + 1, v43)) (by repeat (first | exact trivial | refine ⟨rfl, ?_⟩)) ?_ (by first | omega | (dsimp only; omega))
        refine ⟨by omega, ?_, q43⟩
        have e : esc (p.text.take (k + 1)) = esc (p.text.take k) ++ [p.text[k]] := by rw [hsn, esc_app, esc, if_neg hc0]; rfl
        have e2 : (2 :: (esc (p.text.take k) ++ [p.text[k]])).map u8 = (2 :: esc (p.text.take k)).map u8 ++ [u8 p.text[k]] := by simp
        have e3 : (esc (p.text.take k) ++ [p.text[k]]).length + 1 = (esc (p.text.take k)).length + 1 + 1 := by simp
        rw [e, e2, e3]
        exact hv43
    ·
      have hkn : p.text.take k = p.text := List.take_of_length_le (by omega)
      rw [hkn] at hown hel
      refine TC.exit ?_
      refine Thn.exit ?_
      refine Lp.exit ?_
      refine Blk.hit ?_
      refine Thn.go ?_
      refine TC.seq ?_
      refine TC.region ?_
      refine TL.move rfl rfl ?_
      refine TL.buildSlice (vs := [0, 1].map u8) [.const (Value.int IntKind.u8 0), .const (Value.int IntKind.u8 1)] sl37 rfl rfl rfl (by decide) (by first | simp [Value.cells]; done | simp [Value.cells, cl_len]; done) rfl (fun w53 hb53 hc53 hz53 => ?_)
      have hs1 := hch.size
      have hs2 := hc53.size
      have hl1 : [(0 : UInt8), 1].length = 2 := rfl
      refine TL.append sl37 rfl rfl rfl (hown.ch0 hc53) (News.ofRd Tryd.underlying37 (Rd.ofBytes [0, 1] hb53 (by decide)) (one_u8 [0, 1])) (by omega) (by omega) (by omega) (fun v54 w54 hv54 hc54 _ => ?_)
      refine TL.assign rfl rfl ?_
      refine TL.done ?_
      refine Thn.go ?_
      refine TC.ret ?_
      refine Ends.ret [2] rfl rfl ?_
      have e : Key.part p = 2 :: (esc p.text ++ [0, 1]) := by rw [Key.part, if_neg hk]
      have e2 : (2 :: (esc p.text ++ [0, 1])).map u8 = (2 :: esc p.text).map u8 ++ [0, 1].map u8 := by simp
      have e3 : (2 :: (esc p.text ++ [0, 1])).length = (esc p.text).length + 1 + 2 := by simp
      refine ⟨?_, hc1.trans0 ((hown.ch0 hc53).thenCh (hch.trans0 hc53) hc54)⟩
      rw [e, e2, e3]
      exact Own.base hv54 hc1.size

theorem fn17 (av : Value) (l : List Part) (w : World) (hin : ∀ p ∈ l, inI p.int) (ha : Rd w av 3 l.length (l.flatMap cl)) : Rets Tryd.prog 17 #[av] w (fun r w' => r = .tuple #[str (makeS l), .int .i64 (makeE l : Int)] ∧ Ch [] w w') := by
  obtain ⟨ad, c, rfl, _⟩ := ha.shape
  have hmm : maxLen = 9223372036854775807 := rfl
  have hmx : l.length ≤ 9223372036854775807 := ha.nlt
  refine Rets.of (n := 47) (vs := [_]) Tryd.func17 rfl rfl rfl ?_
  refine TC.seq ?_
  refine TC.region ?_
  refine TL.assign rfl rfl ?_
  refine TL.assign rfl rfl ?_
  refine TL.done ?_
  refine Thn.go ?_
  refine TC.seq ?_
  refine TC.seq ?_
  refine TC.region ?_
  refine TL.move rfl rfl ?_
  refine TL.lenSlice Tryd.underlying22 rfl rfl ?_
  refine TL.gtr rfl rfl rfl ?_
  refine TL.done ?_
  refine Thn.go ?_
  refine TC.condP rfl (fun h1 => ?_) (fun h1 => ?_)
  ·
    have e1 : makeE l = 4 := if_pos (by omega)
    have e2 : makeS l = [] := if_neg (by omega)
    refine TC.seq ?_
    refine TC.region ?_
    refine TL.assign rfl rfl ?_
    refine TL.assign rfl rfl ?_
    refine TL.done ?_
    refine Thn.go ?_
    refine TC.ret ?_
    refine Thn.ret ?_
    refine Ends.ret [2, 3] rfl rfl ?_
    exact ⟨by rw [e1, e2]; rfl, Ch.refl _ _⟩
  ·
    have h8l : ¬ 8 < l.length := by omega
    refine TC.skip ?_
    refine Thn.go ?_
    refine TC.seq ?_
    refine TC.seq ?_
    refine TC.region ?_
    refine TL.assign rfl rfl ?_
    refine TL.done ?_
    refine Thn.go ?_
    refine TC.block ?_
    refine TC.loop1 (fun (k : Nat) => [(0, .slice ad l.length c), (4, .int .i64 (k : Int))]) (fun k w' => k ≤ l.length ∧ (∀ p ∈ l.take k, Key.may p) ∧ Ch [] w w') (fun k => l.length - k) 0 (by repeat (first | exact trivial | refine ⟨rfl, ?_⟩)) (⟨by omega, by simp, Ch.refl _ _⟩) (fun k w' hH => ?_)
    obtain ⟨hk, hmay, hch⟩ := hH
    refine TC.seq ?_
    refine TC.seq ?_
    refine TC.region ?_
    refine TL.move rfl rfl ?_
    refine TL.move rfl rfl ?_
    refine TL.lenSlice Tryd.underlying22 rfl rfl ?_
    refine TL.lss rfl rfl rfl ?_
    refine TL.done ?_
    refine Thn.go ?_
    refine TC.condP rfl (fun h2 => ?_) (fun h2 => ?_)
    ·
      have hkl : k < l.length := by omega
      obtain ⟨b1, o1, rfl, hce1⟩ := Rd.elt cl_len (by decide) (ha.ch0 hch) hkl
      refine TC.skip ?_
      refine Thn.go ?_
      refine TC.seq ?_
      refine TC.block ?_
      refine TC.seq ?_
      refine TC.region ?_
      refine TL.move rfl rfl ?_
      refine TL.move rfl rfl ?_
      refine TL.indexAddr (k) sl22 rfl rfl (by first | rfl | omega) (by omega) rfl ?_
      refine TL.loadAgg (cl l[k]) ag29 rfl rfl (fun j hj => hce1 j hj) rfl ?_
      refine TL.call can36 rfl rfl (fn36 l[k] w') (fun v20 w20 hr20 => ?_)
      obtain ⟨rfl, hc20⟩ := hr20
      refine TL.notP rfl rfl ?_
      refine TL.done ?_
      refine Thn.go ?_
      refine TC.condP rfl (fun h3 => ?_) (fun h3 => ?_)
      ·
        have e1 : makeE l = 8 := by rw [makeE, if_neg h8l, if_pos (fun x => absurd (x _ (List.getElem_mem hkl)) (by assumption))]
        have e2 : makeS l = [] := if_neg (by omega)
        refine TC.seq ?_
        refine TC.region ?_
        refine TL.assign rfl rfl ?_
        refine TL.assign rfl rfl ?_
        refine TL.done ?_
        refine Thn.go ?_
        refine TC.ret ?_
        refine Blk.ret ?_
        refine Thn.ret ?_
        refine Lp.ret ?_
        refine Blk.ret ?_
        refine Thn.ret ?_
        refine Ends.ret [2, 3] rfl rfl ?_
        exact ⟨by rw [e1, e2]; rfl, hch.trans0 hc20⟩
      ·
        refine TC.skip ?_
        refine Blk.go ?_
        refine Thn.go ?_
        refine TC.region ?_
        refine TL.move rfl rfl ?_
        refine TL.add_i64 rfl rfl (by omega) (by omega) rfl ?_
        refine TL.assign rfl rfl ?_
        refine TL.done ?_
        refine Lp.go (k + 1) (by repeat (first | exact trivial | refine ⟨rfl, ?_⟩)) ?_ (by first | omega | (dsimp only; omega))
        refine ⟨by omega, fun p hp => ?_, hch.trans0 hc20⟩
        rw [List.take_add_one, List.getElem?_eq_getElem hkl] at hp
        rcases List.mem_append.1 hp with x | x
        · exact hmay p x
        · simp at x; subst x; exact Decidable.not_not.1 (by assumption)
    ·
      have hall : ∀ p ∈ l, Key.may p := fun p hp => hmay p (by rw [List.take_of_length_le (by omega)]; exact hp)
      refine TC.exit ?_
      refine Thn.exit ?_
      refine Lp.exit ?_
      refine Blk.hit ?_
      refine Thn.go ?_
      refine TC.seq ?_
      refine TC.region ?_
      refine TL.assign rfl rfl ?_
      refine TL.done ?_
      refine Thn.go ?_
      refine TC.seq ?_
      refine TC.seq ?_
      refine TC.region ?_
      refine TL.assign rfl rfl ?_
      refine TL.done ?_
      refine Thn.go ?_
      refine TC.block ?_
      refine TC.loop2 (fun (j : Nat) (ov : Value) => [(0, .slice ad l.length c), (5, ov), (6, .int .i64 (j : Int))]) (fun j ov u' => j ≤ l.length ∧ Own u' w.heap.size 5 1 ov (keyL (l.take j)).length ((keyL (l.take j)).map u8) ∧ (keyL (l.take j)).length ≤ j * 515 ∧ Ch [] w u') (fun j _ => l.length - j) 0 (.slice none 0 0) (by repeat (first | exact trivial | refine ⟨rfl, ?_⟩)) (⟨by omega, World.ownsRow_nil _ _ _ _, by simp [keyL], hch⟩) (fun j ov u' hH => ?_)
      obtain ⟨hj, hown, hkl, hch2⟩ := hH
      refine TC.seq ?_
      refine TC.seq ?_
      refine TC.region ?_
      refine TL.move rfl rfl ?_
      refine TL.move rfl rfl ?_
      refine TL.lenSlice Tryd.underlying22 rfl rfl ?_
      refine TL.lss rfl rfl rfl ?_
      refine TL.done ?_
      refine Thn.go ?_
      refine TC.condP rfl (fun h4 => ?_) (fun h4 => ?_)
      ·
        have hjl : j < l.length := by omega
        obtain ⟨b1, o1, rfl, hce1⟩ := Rd.elt cl_len (by decide) (ha.ch0 hch2) hjl
        have hsn := key_snoc hjl
        refine TC.skip ?_
        refine Thn.go ?_
        refine TC.seq ?_
        refine TC.block ?_
        refine TC.seq ?_
        refine TC.seq ?_
        refine TC.region ?_
        refine TL.move rfl rfl ?_
        refine TL.move rfl rfl ?_
        refine TL.indexAddr (j) sl22 rfl rfl (by first | rfl | omega) (by omega) rfl ?_
        refine TL.fieldAddr fd29k2 rfl rfl ?_
        refine TL.load pl9 rfl ((show _ = some (str l[j].text) from hce1 2 (by decide))) rfl ?_
        refine TL.lenStr Tryd.underlying9 rfl rfl ?_
        refine TL.gtr rfl rfl rfl ?_
        refine TL.done ?_
        refine Thn.go ?_
        refine TC.condP rfl (fun h5 => ?_) (fun h5 => ?_)
        ·
          have e1 : makeE l = 60 := by
            have h1 := key_ge (List.getElem_mem hjl)
            have h2 := esc_len l[j].text
            have h3 : Key.part l[j] = 2 :: (esc l[j].text ++ [0, 1]) := by
              have h4 : ¬ l[j].kind = 1 := fun e => by
                rcases hall _ (List.getElem_mem hjl) with ⟨_, h5⟩ | ⟨h5, _⟩
                · have h6 : l[j].text.length = 0 := by rw [h5]; rfl
                  omega
                · rw [e] at h5; exact absurd h5 (by decide)
              rw [Key.part, if_neg h4]
            rw [h3] at h1
            simp only [List.length_append, List.length_cons] at h1
            rw [makeE, if_neg h8l, if_neg (fun x => x hall), if_pos (by omega)]
          have e2 : makeS l = [] := if_neg (by omega)
          refine TC.seq ?_
          refine TC.region ?_
          refine TL.assign rfl rfl ?_
          refine TL.assign rfl rfl ?_
          refine TL.done ?_
          refine Thn.go ?_
          refine TC.ret ?_
          refine Thn.ret ?_
          refine Blk.ret ?_
          refine Thn.ret ?_
          refine Lp.ret ?_
          refine Blk.ret ?_
          refine Thn.ret ?_
          refine Ends.ret [2, 3] rfl rfl ?_
          exact ⟨by rw [e1, e2]; rfl, hch2⟩
        ·
          have hpl := part_le (show l[j].text.length ≤ 256 by omega)
          refine TC.skip ?_
          refine Thn.go ?_
          refine TC.region ?_
          refine TL.move rfl rfl ?_
          refine TL.move rfl rfl ?_
          refine TL.move rfl rfl ?_
          refine TL.indexAddr (j) sl22 rfl rfl (by first | rfl | omega) (by omega) rfl ?_
          refine TL.loadAgg (cl l[j]) ag29 rfl rfl (fun i hi => hce1 i hi) rfl ?_
          refine TL.call can37 rfl rfl (fn37 l[j] (hin _ (List.getElem_mem hjl)) (by omega) u') (fun v40 w40 hr40 => ?_)
          obtain ⟨hv40, hc40⟩ := hr40
          have hs1 := hch2.size
          have hs2 := hc40.size
          refine TL.append sl37 rfl rfl rfl (hown.ch0 hc40) (News.ofRd Tryd.underlying37 (Rd.ofOwn hv40) (one_u8 _)) (by omega) (by omega) (by omega) (fun v41 w41 hv41 hc41 _ => ?_)
          refine TL.assign rfl rfl ?_
          refine TL.done ?_
          refine Blk.go ?_
          refine Thn.go ?_
          refine TC.region ?_
          refine TL.move rfl rfl ?_
          refine TL.add_i64 rfl rfl (by omega) (by omega) rfl ?_
          refine TL.assign rfl rfl ?_
          refine TL.done ?_
          refine Lp.go ((j + 1, v41)) (by repeat (first | exact trivial | refine ⟨rfl, ?_⟩)) ?_ (by first | omega | (dsimp only; omega))
          refine ⟨by omega, ?_, ?_, (hown.ch0 hc40).thenCh (hch2.trans0 hc40) hc41⟩
          · rw [hsn, List.length_append, List.map_append]; exact hv41
          · rw [hsn, List.length_append]; omega
      ·
        have hjn : l.take j = l := List.take_of_length_le (by omega)
        rw [hjn] at hown hkl
        obtain ⟨od, oc, rfl, _⟩ := hown.shape
        refine TC.exit ?_
        refine Thn.exit ?_
        refine Lp.exit ?_
        refine Blk.hit ?_
        refine Thn.go ?_
        refine TC.seq ?_
        refine TC.seq ?_
        refine TC.region ?_
        refine TL.move rfl rfl ?_
        refine TL.lenSlice Tryd.underlying37 rfl rfl ?_
        refine TL.gtr rfl rfl rfl ?_
        refine TL.done ?_
        refine Thn.go ?_
        refine TC.condP rfl (fun h6 => ?_) (fun h6 => ?_)
        ·
          have e1 : makeE l = 60 := by rw [makeE, if_neg h8l, if_neg (fun x => x hall), if_pos (by omega)]
          have e2 : makeS l = [] := if_neg (by omega)
          refine TC.seq ?_
          refine TC.region ?_
          refine TL.assign rfl rfl ?_
          refine TL.assign rfl rfl ?_
          refine TL.done ?_
          refine Thn.go ?_
          refine TC.ret ?_
          refine Thn.ret ?_
          refine Ends.ret [2, 3] rfl rfl ?_
          exact ⟨by rw [e1, e2]; rfl, hch2⟩
        ·
          have e1 : makeE l = 0 := by rw [makeE, if_neg h8l, if_neg (fun x => x hall), if_neg (by omega)]
          have e2 : makeS l = keyL l := if_pos e1
          refine TC.skip ?_
          refine Thn.go ?_
          refine TC.seq ?_
          refine TC.region ?_
          refine TL.move rfl rfl ?_
          refine TL.bytesToStr (l := keyL l) Tryd.underlying37 Tryd.underlying5 Tryd.underlying9 rfl (Rd.ofOwn hown) rfl ?_
          refine TL.assign rfl rfl ?_
          refine TL.assign rfl rfl ?_
          refine TL.done ?_
          refine Thn.go ?_
          refine TC.ret ?_
          refine Ends.ret [2, 3] rfl rfl ?_
          exact ⟨by rw [e1, e2]; rfl, hch2⟩

theorem fn19 (a b : Value) (l m : List Part) (w : World) (ha : Rd w a 3 l.length (l.flatMap cl)) (hb : Rd w b 3 m.length (m.flatMap cl)) : Rets Tryd.prog 19 #[a, b] w (fun v w' => v = .bool (decide (l = m)) ∧ Ch [] w w') := by
  obtain ⟨ad, c, rfl, _⟩ := ha.shape
  obtain ⟨bd, d, rfl, _⟩ := hb.shape
  have hmx : l.length ≤ 9223372036854775807 := ha.nlt
  refine Rets.of (n := 26) (vs := [_, _]) Tryd.func19 rfl rfl rfl ?_
  refine TC.seq ?_
  refine TC.region ?_
  refine TL.assign rfl rfl ?_
  refine TL.done ?_
  refine Thn.go ?_
  refine TC.seq ?_
  refine TC.seq ?_
  refine TC.region ?_
  refine TL.move rfl rfl ?_
  refine TL.lenSlice Tryd.underlying22 rfl rfl ?_
  refine TL.move rfl rfl ?_
  refine TL.lenSlice Tryd.underlying22 rfl rfl ?_
  refine TL.neq rfl rfl rfl ?_
  refine TL.done ?_
  refine Thn.go ?_
  refine TC.condP rfl (fun h1 => ?_) (fun h1 => ?_)
  ·
    refine TC.seq ?_
    refine TC.region ?_
    refine TL.assign rfl rfl ?_
    refine TL.done ?_
    refine Thn.go ?_
    refine TC.ret ?_
    refine Thn.ret ?_
    refine Ends.ret [4] rfl rfl ?_
    exact ⟨congrArg Value.bool (decide_eq_false (by rintro rfl; exact absurd rfl (by assumption))).symm, Ch.refl _ _⟩
  ·
    have hlm : l.length = m.length := by omega
    refine TC.skip ?_
    refine Thn.go ?_
    refine TC.seq ?_
    refine TC.seq ?_
    refine TC.region ?_
    refine TL.assign rfl rfl ?_
    refine TL.done ?_
    refine Thn.go ?_
    refine TC.block ?_
    refine TC.loop1 (fun (i : Nat) => [(0, .slice ad l.length c), (1, .slice bd m.length d), (5, .int .i64 (i : Int))]) (fun i w' => i ≤ l.length ∧ (∀ j, j < i → rec l j = rec m j) ∧ Ch [] w w') (fun i => l.length - i) 0 (by repeat (first | exact trivial | refine ⟨rfl, ?_⟩)) (⟨by omega, by intro j hj; omega, Ch.refl _ _⟩) (fun i w' hH => ?_)
    obtain ⟨hi, hg, hch⟩ := hH
    refine TC.seq ?_
    refine TC.seq ?_
    refine TC.region ?_
    refine TL.move rfl rfl ?_
    refine TL.move rfl rfl ?_
    refine TL.lenSlice Tryd.underlying22 rfl rfl ?_
    refine TL.lss rfl rfl rfl ?_
    refine TL.done ?_
    refine Thn.go ?_
    refine TC.condP rfl (fun h2 => ?_) (fun h2 => ?_)
    ·
      have hil : i < l.length := by omega
      obtain ⟨b1, o1, rfl, _⟩ := recAt ha hil
      obtain ⟨b2, o2, rfl, _⟩ := recAt hb (i := i) (by omega)
      have hce : ∀ w2, Ch [] w w2 → ∀ j, j < 3 → w2.cell? ⟨b1, o1 + i * 3 + j, none⟩ = (cl (rec l i))[j]? := fun w2 h2 => by obtain ⟨b', o', e, hh⟩ := recAt (ha.ch0 h2) hil; cases e; exact hh
      have hce2 : ∀ w2, Ch [] w w2 → ∀ j, j < 3 → w2.cell? ⟨b2, o2 + i * 3 + j, none⟩ = (cl (rec m i))[j]? := fun w2 h2 => by obtain ⟨b', o', e, hh⟩ := recAt (i := i) (hb.ch0 h2) (by omega); cases e; exact hh
      refine TC.skip ?_
      refine Thn.go ?_
      refine TC.seq ?_
      refine TC.block ?_
      refine TC.seq ?_
      refine TC.regionQ (fun w4 => Ch [] w w4) mixed0 (by kernel_rfl) (hch.trans0 (Ch.drew [] _)) ?_
      refine TQ.via rfl rfl rfl rfl (fun w2 hw2 => TL.move rfl rfl (TL.done ⟨rfl, rfl⟩)) ?_
      refine TQ.via rfl rfl rfl rfl (fun w2 hw2 => TL.move rfl rfl (TL.done ⟨rfl, rfl⟩)) ?_
      refine TQ.via rfl rfl rfl rfl (fun w2 hw2 => TL.indexAddr (i) sl22 rfl rfl (by first | rfl | omega) (by omega) rfl (TL.done ⟨rfl, rfl⟩)) ?_
      refine TQ.via rfl rfl rfl rfl (fun w2 hw2 => TL.loadAgg (cl (rec l i)) ag29 rfl rfl (fun j hj => hce _ hw2 j hj) rfl (TL.done ⟨rfl, rfl⟩)) ?_
      refine TQ.via rfl rfl rfl rfl (fun w2 hw2 => TL.move rfl rfl (TL.done ⟨rfl, rfl⟩)) ?_
      refine TQ.via rfl rfl rfl rfl (fun w2 hw2 => TL.move rfl rfl (TL.done ⟨rfl, rfl⟩)) ?_
      refine TQ.via rfl rfl rfl rfl (fun w2 hw2 => TL.indexAddr (i) sl22 rfl rfl (by first | rfl | omega) (by omega) rfl (TL.done ⟨rfl, rfl⟩)) ?_
      refine TQ.via rfl rfl rfl rfl (fun w2 hw2 => TL.loadAgg (cl (rec m i)) ag29 rfl rfl (fun j hj => hce2 _ hw2 j hj) rfl (TL.done ⟨rfl, rfl⟩)) ?_
      refine TQ.via rfl rfl rfl rfl (fun w2 hw2 => TL.neqAgg (p := rec l i = rec m i) gd29 (eqPart _ _ _) rfl rfl rfl (TL.done ⟨rfl, rfl⟩)) ?_
      refine TQ.done (fun w2 hw2 => ?_)
      refine Thn.go ?_
      refine TC.condP rfl (fun h3 => ?_) (fun h3 => ?_)
      ·
        refine TC.seq ?_
        refine TC.region ?_
        refine TL.assign rfl rfl ?_
        refine TL.done ?_
        refine Thn.go ?_
        refine TC.ret ?_
        refine Blk.ret ?_
        refine Thn.ret ?_
        refine Lp.ret ?_
        refine Blk.ret ?_
        refine Thn.ret ?_
        refine Ends.ret [4] rfl rfl ?_
        exact ⟨congrArg Value.bool (decide_eq_false (by rintro rfl; exact absurd rfl (by assumption))).symm, hw2⟩
      ·
        refine TC.skip ?_
        refine Blk.go ?_
        refine Thn.go ?_
        refine TC.region ?_
        refine TL.move rfl rfl ?_
        refine TL.add_i64 rfl rfl (by omega) (by omega) rfl ?_
        refine TL.assign rfl rfl ?_
        refine TL.done ?_
        refine Lp.go (i + 1) (by repeat (first | exact trivial | refine ⟨rfl, ?_⟩)) ?_ (by first | omega | (dsimp only; omega))
        refine ⟨by omega, fun j hj => ?_, hw2⟩
        rcases Nat.lt_or_ge j i with h | h
        · exact hg j h
        · rw [show j = i by omega]; exact Decidable.not_not.1 (by assumption)
    ·
      refine TC.exit ?_
      refine Thn.exit ?_
      refine Lp.exit ?_
      refine Blk.hit ?_
      refine Thn.go ?_
      refine TC.seq ?_
      refine TC.region ?_
      refine TL.assign rfl rfl ?_
      refine TL.done ?_
      refine Thn.go ?_
      refine TC.ret ?_
      refine Ends.ret [4] rfl rfl ?_
      exact ⟨congrArg Value.bool (decide_eq_true (rec_ext hlm (fun j hj => hg j (by omega)))).symm, hch⟩

