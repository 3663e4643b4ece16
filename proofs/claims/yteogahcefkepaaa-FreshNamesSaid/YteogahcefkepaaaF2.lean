/-
  Walks through the given program: each theorem fnN says what the call of function N of the translation hands back, for all arguments that its premises describe, and that nothing that was there has turned.
-/
import Derived.Test.YteogahcefkepaaaF1
import Derived.Test.YteogahcefkepaaaLaneQ
namespace Go.Proofs.Yteogahcefkepaaa
open Go.Lane
theorem can26 : Callable Try.prog 26 := ⟨Try.f26, Try.func26, by kernel_rfl, rfl⟩

theorem fn32 (a : Value) (l : List En.Entry) (x : En.Entry) (hs : l.Pairwise En.less) (hl : l.length ≤ 1000000) (w : World) (ha : Rd w a 4 l.length (l.flatMap cl)) : Rets Try.prog 32 #[a, .agg (cl x).toArray, .func (.func 26) #[] #[]] w (fun v w' => v = .tuple #[.int .i64 (En.ahead l x : Int), .bool (decide (En.ahead l x < l.length ∧ En.cmpE (En.rec l (En.ahead l x)) x = 0))] ∧ Ch [] w w') := by
  obtain ⟨ad, c, rfl, _⟩ := ha.shape
  have hmm : maxLen = 9223372036854775807 := rfl
  refine Rets.of (n := 49) (vs := [_, _, _]) Try.func32 rfl rfl rfl ?_
  refine TC.seq ?_
  refine TC.region ?_
  refine TL.box rfl rfl (fun w4 hb4 hc4 hz4 => ?_)
  refine TL.assign rfl rfl ?_
  refine TL.assign rfl rfl ?_
  refine TL.done ?_
  refine Thn.go ?_
  refine TC.seq ?_
  refine TC.region ?_
  refine TL.move rfl rfl ?_
  refine TL.lenSlice Try.underlying22 rfl rfl ?_
  refine TL.assign rfl rfl ?_
  refine TL.done ?_
  refine Thn.go ?_
  refine TC.seq ?_
  refine TC.region ?_
  refine TL.move rfl rfl ?_
  refine TL.assign rfl rfl ?_
  refine TL.assign rfl rfl ?_
  refine TL.done ?_
  refine Thn.go ?_
  refine TC.seq ?_
  refine TC.block ?_
  refine TC.loop2 (fun (i : Nat) (j : Nat) => [(0, .slice ad l.length c), (2, .func (.func 26) #[] #[]), (4, .pointer (some ⟨w.heap.size, 0, none⟩)), (8, .int .i64 (l.length : Int)), (9, .int .i64 (i : Int)), (10, .int .i64 (j : Int))]) (fun i j w' => i ≤ j ∧ j ≤ l.length ∧ (∀ m, m < i → En.less (En.rec l m) x) ∧ (j < l.length → ¬ En.less (En.rec l j) x) ∧ Ch [] w4 w') (fun i j => j - i) 0 l.length (by repeat (first | exact trivial | refine ⟨rfl, ?_⟩)) (⟨by omega, by omega, fun m hm => by omega, fun h => by omega, Ch.refl _ _⟩) (fun i j w' hI => ?_)
  obtain ⟨hij, hjl, hlo, hhi, hch⟩ := hI
  have ha4 := ha.ch0 hc4
  refine TC.seq ?_
  refine TC.seq ?_
  refine TC.region ?_
  refine TL.move rfl rfl ?_
  refine TL.move rfl rfl ?_
  refine TL.lss rfl rfl rfl ?_
  refine TL.done ?_
  refine Thn.go ?_
  refine TC.condP rfl (fun h1 => ?_) (fun h1 => ?_)
  ·
    have hlt : i < j := by omega
    obtain ⟨b1, o1, rfl, hall⟩ := recAll ha4 (by omega)
    have hbx : ∀ w2, Ch [] w4 w2 → ∀ q, q < 4 → w2.cell? ⟨w.heap.size, 0 + q, none⟩ = (cl x)[q]? := fun w2 h2 q _ => by rw [(hb4.ch0 h2).cell, Nat.zero_add]; simp [Value.cells]
    refine TC.skip ?_
    refine Thn.go ?_
    refine TC.block ?_
    refine TC.seq ?_
    refine TC.region ?_
    refine TL.move rfl rfl ?_
    refine TL.move rfl rfl ?_
    refine TL.add_i64 rfl rfl (by omega) (by omega) rfl ?_
    refine TL.convI_u64 Try.underlying3 Try.underlying69 rfl rfl ?_
    rw [show (((i : Int) + (j : Int)) % 18446744073709551616).toNat = i + j by omega]
    refine TL.shr_u64 rfl rfl (by decide) rfl ?_
    have e1 : (UInt64.ofNat (i + j)).toNat = i + j := by rw [UInt64.toNat_ofNat']; omega
    have hmid : u64 (UInt64.ofNat ((UInt64.ofNat (i + j)).toNat / 2 ^ Int.toNat 1)) = .int .u64 (((i + j) / 2 : Nat) : Int) := by
      rw [e1]
      show Value.int .u64 ((UInt64.ofNat ((i + j) / 2 ^ 1)).toNat : Int) = _
      rw [Nat.pow_one, UInt64.toNat_ofNat', Nat.mod_eq_of_lt (by omega)]
    rw [hmid]
    refine TL.conv_i64 Try.underlying69 Try.underlying3 rfl (by omega) (by omega) rfl ?_
    refine TL.assign rfl rfl ?_
    refine TL.done ?_
    refine Thn.go ?_
    refine TC.seq ?_
    refine TC.regionQ (fun w6 => Ch [] w4 w6) mixed0 (by kernel_rfl) (hch.trans0 (Ch.drew [] _)) ?_
    refine TQ.via rfl rfl rfl rfl (fun w2 hw2 => TL.move rfl rfl (TL.done ⟨rfl, rfl⟩)) ?_
    refine TQ.via rfl rfl rfl rfl (fun w2 hw2 => TL.move rfl rfl (TL.done ⟨rfl, rfl⟩)) ?_
    refine TQ.via rfl rfl rfl rfl (fun w2 hw2 => TL.move rfl rfl (TL.done ⟨rfl, rfl⟩)) ?_
    refine TQ.via rfl rfl rfl rfl (fun w2 hw2 => TL.indexAddr ((i + j) / 2) sl22 rfl rfl (by first | rfl | omega) (by omega) rfl (TL.done ⟨rfl, rfl⟩)) ?_
    refine TQ.via rfl rfl rfl rfl (fun w2 hw2 => TL.loadAgg (cl (En.rec l ((i + j) / 2))) ag30 rfl rfl (fun q hq => hall _ (by omega) _ hw2 q hq) rfl (TL.done ⟨rfl, rfl⟩)) ?_
    refine TQ.via rfl rfl rfl rfl (fun w2 hw2 => TL.loadAgg (cl x) ag30 rfl rfl (fun q hq => hbx _ hw2 q hq) rfl (TL.done ⟨rfl, rfl⟩)) ?_
    refine TQ.callVal can26 (.int .i64 (En.cmpE (En.rec l ((i + j) / 2)) x)) rfl rfl rfl (fun w2 hw2 => (fn26 _ _ w2).mono (fun _ _ ⟨q1, q2⟩ => ⟨q1, hw2.trans0 q2⟩)) ?_
    refine TQ.via rfl rfl rfl rfl (fun w2 hw2 => TL.lss rfl rfl rfl (TL.done ⟨rfl, rfl⟩)) ?_
    refine TQ.done (fun w2 hw2 => ?_)
    refine Thn.go ?_
    refine TC.condP rfl (fun h2 => ?_) (fun h2 => ?_)
    ·
      have hcm : En.less (En.rec l ((i + j) / 2)) x := En.cmpE_neg.1 (by assumption)
      refine TC.region ?_
      refine TL.move rfl rfl ?_
      refine TL.add_i64 rfl rfl (by omega) (by omega) rfl ?_
      refine TL.assign rfl rfl ?_
      refine TL.done ?_
      refine Blk.go ?_
      refine Lp.go (((i + j) / 2 + 1, j)) (by repeat (first | exact trivial | refine ⟨rfl, ?_⟩)) ?_ (by first | omega | (dsimp only; omega))
      exact ⟨by show (i + j) / 2 + 1 ≤ j; omega, hjl, fun m hm => En.less_mono hs (by have : m < (i + j) / 2 + 1 := hm; omega) (by omega) hcm, hhi, hw2⟩
    ·
      have hcm : ¬ En.less (En.rec l ((i + j) / 2)) x := fun h => absurd (En.cmpE_neg.2 h) (by assumption)
      refine TC.region ?_
      refine TL.move rfl rfl ?_
      refine TL.assign rfl rfl ?_
      refine TL.done ?_
      refine Blk.go ?_
      refine Lp.go ((i, (i + j) / 2)) (by repeat (first | exact trivial | refine ⟨rfl, ?_⟩)) ?_ (by first | omega | (dsimp only; omega))
      exact ⟨by show i ≤ (i + j) / 2; omega, by show (i + j) / 2 ≤ l.length; omega, hlo, fun _ => hcm, hw2⟩
  ·
    have hie : j = i := by omega
    have he : En.ahead l x = i := En.ahead_eq (by omega) hlo (by
      rcases Nat.lt_or_ge i l.length with h | h
      · right; rw [hie] at hhi; exact hhi h
      · left; omega)
    have hbx : ∀ w2, Ch [] w4 w2 → ∀ q, q < 4 → w2.cell? ⟨w.heap.size, 0 + q, none⟩ = (cl x)[q]? := fun w2 h2 q _ => by rw [(hb4.ch0 h2).cell, Nat.zero_add]; simp [Value.cells]
    refine TC.exit ?_
    refine Thn.exit ?_
    refine Lp.exit ?_
    refine Blk.hit ?_
    refine Thn.go ?_
    refine TC.cut0 ([(6, .int .i64 (i : Int)), (7, .bool (decide (i < l.length ∧ En.cmpE (En.rec l i) x = 0)))]) (fun w3 => Ch [] w4 w3) (fun K3 hK3 => ?_) (fun w3 hH => ?_)
    ·
      refine TC.regionQ (fun w6 => Ch [] w4 w6) mixed0 (by kernel_rfl) (hch.trans0 (Ch.drew [] _)) ?_
      refine TQ.via rfl rfl rfl rfl (fun w2 hw2 => TL.move rfl rfl (TL.done ⟨rfl, rfl⟩)) ?_
      refine TQ.via rfl rfl rfl rfl (fun w2 hw2 => TL.move rfl rfl (TL.done ⟨rfl, rfl⟩)) ?_
      refine TQ.via rfl rfl rfl rfl (fun w2 hw2 => TL.move rfl rfl (TL.done ⟨rfl, rfl⟩)) ?_
      refine TQ.via rfl rfl rfl rfl (fun w2 hw2 => TL.lss rfl rfl rfl (TL.done ⟨rfl, rfl⟩)) ?_
      refine TQ.em (fun e38 => ?_) (fun e38 => ?_)
      ·
        have hil : i < l.length := by omega
        obtain ⟨b1, o1, rfl, hall⟩ := recAll ha4 (by omega)
        refine TQ.via rfl rfl rfl rfl (fun w2 hw2 => TL.move rfl rfl (TL.done ⟨rfl, rfl⟩)) ?_
        refine TQ.guardYes (d := 39) rfl rfl rfl ?_
        refine TQ.via rfl rfl rfl rfl (fun w2 hw2 => TL.move rfl rfl (TL.done ⟨rfl, rfl⟩)) ?_
        refine TQ.guardYes (d := 39) rfl rfl rfl ?_
        refine TQ.via rfl rfl rfl rfl (fun w2 hw2 => TL.move rfl rfl (TL.done ⟨rfl, rfl⟩)) ?_
        refine TQ.guardYes (d := 39) rfl rfl rfl ?_
        refine TQ.via rfl rfl rfl rfl (fun w2 hw2 => TL.move rfl rfl (TL.done ⟨rfl, rfl⟩)) ?_
        refine TQ.guardYes (d := 39) rfl rfl rfl ?_
        refine TQ.via rfl rfl rfl rfl (fun w2 hw2 => TL.indexAddr (i) sl22 rfl rfl (by first | rfl | omega) (by omega) rfl (TL.done ⟨rfl, rfl⟩)) ?_
        refine TQ.guardYes (d := 39) rfl rfl rfl ?_
        refine TQ.via rfl rfl rfl rfl (fun w2 hw2 => TL.loadAgg (cl (En.rec l i)) ag30 rfl rfl (fun q hq => hall _ hil _ hw2 q hq) rfl (TL.done ⟨rfl, rfl⟩)) ?_
        refine TQ.guardYes (d := 39) rfl rfl rfl ?_
        refine TQ.via rfl rfl rfl rfl (fun w2 hw2 => TL.loadAgg (cl x) ag30 rfl rfl (fun q hq => hbx _ hw2 q hq) rfl (TL.done ⟨rfl, rfl⟩)) ?_
        refine TQ.guardYes (d := 39) rfl rfl rfl ?_
        refine TQ.callVal can26 (.int .i64 (En.cmpE (En.rec l i) x)) rfl rfl rfl (fun w2 hw2 => (fn26 _ _ w2).mono (fun _ _ ⟨q1, q2⟩ => ⟨q1, hw2.trans0 q2⟩)) ?_
        refine TQ.guardYes (d := 39) rfl rfl rfl ?_
        refine TQ.via rfl rfl rfl rfl (fun w2 hw2 => TL.eql rfl rfl rfl (TL.done ⟨rfl, rfl⟩)) ?_
        refine TQ.via rfl rfl rfl rfl (fun w2 hw2 => TL.pickT rfl rfl rfl rfl (TL.done ⟨rfl, rfl⟩)) ?_
        refine TQ.via rfl rfl rfl rfl (fun w2 hw2 => TL.assign rfl rfl (TL.done ⟨rfl, rfl⟩)) ?_
        refine TQ.via rfl rfl rfl rfl (fun w2 hw2 => TL.assign rfl rfl (TL.done ⟨rfl, rfl⟩)) ?_
        refine TQ.done (fun w2 hw2 => ?_)
        exact hK3  _ _ (by repeat (first | exact trivial | refine ⟨rfl, ?_⟩ | refine ⟨congrArg (fun b => some (Value.bool b)) (by first | exact (decide_eq_true (by grind)).symm | exact (decide_eq_false (by grind)).symm | exact decide_eq_decide.2 (by grind) | exact decide_eq_true (by grind) | exact decide_eq_false (by grind) | (exfalso; grind)), ?_⟩)) (hw2)
      ·
        refine TQ.via rfl rfl rfl rfl (fun w2 hw2 => TL.move rfl rfl (TL.done ⟨rfl, rfl⟩)) ?_
        refine TQ.guardNo (d := 39) rfl rfl rfl rfl rfl ?_
        refine TQ.guardNo (d := 39) rfl rfl rfl rfl rfl ?_
        refine TQ.guardNo (d := 39) rfl rfl rfl rfl rfl ?_
        refine TQ.guardNo (d := 39) rfl rfl rfl rfl rfl ?_
        refine TQ.guardNo (d := 39) rfl rfl rfl rfl rfl ?_
        refine TQ.guardNo (d := 39) rfl rfl rfl rfl rfl ?_
        refine TQ.guardNo (d := 39) rfl rfl rfl rfl rfl ?_
        refine TQ.guardNo (d := 39) rfl rfl rfl rfl rfl ?_
        refine TQ.via rfl rfl rfl rfl (fun w2 hw2 => TL.pickF rfl rfl rfl rfl (TL.done ⟨rfl, rfl⟩)) ?_
        refine TQ.via rfl rfl rfl rfl (fun w2 hw2 => TL.assign rfl rfl (TL.done ⟨rfl, rfl⟩)) ?_
        refine TQ.via rfl rfl rfl rfl (fun w2 hw2 => TL.assign rfl rfl (TL.done ⟨rfl, rfl⟩)) ?_
        refine TQ.done (fun w2 hw2 => ?_)
        exact hK3  _ _ (by repeat (first | exact trivial | refine ⟨rfl, ?_⟩ | refine ⟨congrArg (fun b => some (Value.bool b)) (by first | exact (decide_eq_true (by grind)).symm | exact (decide_eq_false (by grind)).symm | exact decide_eq_decide.2 (by grind) | exact decide_eq_true (by grind) | exact decide_eq_false (by grind) | (exfalso; grind)), ?_⟩)) (hw2)
    ·
      refine TC.ret ?_
      refine Ends.ret [6, 7] rfl rfl ?_
      exact ⟨by rw [he]; rfl, hc4.trans0 hH⟩

