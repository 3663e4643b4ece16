/-
  Walks through the given program: each theorem fnN says what the call of function N of the translation hands back, for all arguments that its premises describe, and that nothing that was there has turned.
-/
import Derived.Test.YtcoaophfojkldaaH1
namespace Go.Proofs.Ytcoaophfojkldaa
open Go.Lane
open Go.RowKit (Below)

theorem fn62 (c : UInt8) (w : World) : Rets Try.prog 62 #[u8 c] w (fun v w' => v = .int .i64 (Hex.wI c) ∧ w' = w) := by
  have hc := UInt8.toNat_lt c
  refine Rets.of (n := 22) (vs := [_]) Try.func62 rfl rfl rfl ?_
  refine TC.seq ?_
  refine TC.region ?_
  refine TL.assign rfl rfl ?_
  refine TL.done ?_
  refine Thn.go ?_
  refine TC.seq ?_
  refine TC.regionBool (d := 8) (p := (48 ≤ c.toNat ∧ c.toNat ≤ 57)) (fun K1 hK1 => ?_) ?_
  ·
    refine TL.move rfl rfl ?_
    refine TL.geq rfl rfl rfl ?_
    refine TL.em (fun e4 => ?_) (fun e4 => ?_)
    ·
      refine TL.move rfl rfl ?_
      refine TL.guardYes (d := 5) rfl rfl rfl ?_
      refine TL.move rfl rfl ?_
      refine TL.guardYes (d := 5) rfl rfl rfl ?_
      refine TL.leq rfl rfl rfl ?_
      refine TL.pickT rfl rfl rfl rfl ?_
      refine TL.done ?_
      refine hK1 _ ?_
      refine Le.here rfl (by first | exact decide_eq_true (by omega) | exact decide_eq_false (by omega) | exact decide_eq_decide.2 (by omega) | exact decide_eq_true (by grind) | exact decide_eq_false (by grind) | exact decide_eq_decide.2 (by grind)) ?_
      repeat (first | exact Le.refl _ | refine Le.skip rfl ?_)
    ·
      refine TL.move rfl rfl ?_
      refine TL.guardNo (d := 5) rfl rfl rfl rfl rfl ?_
      refine TL.guardNo (d := 5) rfl rfl rfl rfl rfl ?_
      refine TL.pickF rfl rfl rfl rfl ?_
      refine TL.done ?_
      refine hK1 _ ?_
      refine Le.here rfl (by first | exact decide_eq_true (by omega) | exact decide_eq_false (by omega) | exact decide_eq_decide.2 (by omega) | exact decide_eq_true (by grind) | exact decide_eq_false (by grind) | exact decide_eq_decide.2 (by grind)) ?_
      repeat (first | exact Le.refl _ | refine Le.skip rfl ?_)
  refine TC.condP rfl (fun h3 => ?_) (fun h3 => ?_)
  ·
    refine TC.seq ?_
    refine TC.region ?_
    refine TL.move rfl rfl ?_
    refine TL.conv_i64 Try.underlying5 Try.underlying3 rfl (by omega) (by omega) rfl ?_
    refine TL.sub_i64 rfl rfl (by omega) (by omega) rfl ?_
    refine TL.assign rfl rfl ?_
    refine TL.done ?_
    refine Thn.go ?_
    refine TC.ret ?_
    refine Thn.ret ?_
    refine Ends.ret [2] rfl rfl ?_
    exact ⟨by rw [Hex.wI_num h3]; rfl, rfl⟩
  ·
    refine TC.skip ?_
    refine Thn.go ?_
    refine TC.seq ?_
    refine TC.regionBool (d := 17) (p := (97 ≤ c.toNat ∧ c.toNat ≤ 102)) (fun K4 hK4 => ?_) ?_
    ·
      refine TL.move rfl rfl ?_
      refine TL.geq rfl rfl rfl ?_
      refine TL.em (fun e13 => ?_) (fun e13 => ?_)
      ·
        refine TL.move rfl rfl ?_
        refine TL.guardYes (d := 14) rfl rfl rfl ?_
        refine TL.move rfl rfl ?_
        refine TL.guardYes (d := 14) rfl rfl rfl ?_
        refine TL.leq rfl rfl rfl ?_
        refine TL.pickT rfl rfl rfl rfl ?_
        refine TL.done ?_
        refine hK4 _ ?_
        refine Le.here rfl (by first | exact decide_eq_true (by omega) | exact decide_eq_false (by omega) | exact decide_eq_decide.2 (by omega) | exact decide_eq_true (by grind) | exact decide_eq_false (by grind) | exact decide_eq_decide.2 (by grind)) ?_
        repeat (first | exact Le.refl _ | refine Le.skip rfl ?_)
      ·
        refine TL.move rfl rfl ?_
        refine TL.guardNo (d := 14) rfl rfl rfl rfl rfl ?_
        refine TL.guardNo (d := 14) rfl rfl rfl rfl rfl ?_
        refine TL.pickF rfl rfl rfl rfl ?_
        refine TL.done ?_
        refine hK4 _ ?_
        refine Le.here rfl (by first | exact decide_eq_true (by omega) | exact decide_eq_false (by omega) | exact decide_eq_decide.2 (by omega) | exact decide_eq_true (by grind) | exact decide_eq_false (by grind) | exact decide_eq_decide.2 (by grind)) ?_
        repeat (first | exact Le.refl _ | refine Le.skip rfl ?_)
    refine TC.condP rfl (fun h6 => ?_) (fun h6 => ?_)
    ·
      refine TC.seq ?_
      refine TC.region ?_
      refine TL.move rfl rfl ?_
      refine TL.conv_i64 Try.underlying5 Try.underlying3 rfl (by omega) (by omega) rfl ?_
      refine TL.sub_i64 rfl rfl (by omega) (by omega) rfl ?_
      refine TL.add_i64 rfl rfl (by omega) (by omega) rfl ?_
      refine TL.assign rfl rfl ?_
      refine TL.done ?_
      refine Thn.go ?_
      refine TC.ret ?_
      refine Thn.ret ?_
      refine Ends.ret [2] rfl rfl ?_
      exact ⟨by rw [Hex.wI_let h3 h6]; rfl, rfl⟩
    ·
      refine TC.skip ?_
      refine Thn.go ?_
      refine TC.seq ?_
      refine TC.region ?_
      refine TL.assign rfl rfl ?_
      refine TL.done ?_
      refine Thn.go ?_
      refine TC.ret ?_
      refine Ends.ret [2] rfl rfl ?_
      exact ⟨by rw [Hex.wI_no h3 h6]; rfl, rfl⟩

theorem fn45 (s : List UInt8) (hs : s.length ≤ 100000) (w : World) : Rets Try.prog 45 #[str s] w (fun v w' => ∃ r, v = .tuple #[r, .int .i64 (Hex.unE s : Int)] ∧ Own w' w.heap.size 5 1 r (Hex.unL s).length ((Hex.unL s).map u8) ∧ Ch [] w w') := by
  have hmm : maxLen = 9223372036854775807 := rfl
  refine Rets.of (n := 41) (vs := [_]) Try.func45 rfl rfl rfl ?_
  refine TC.seq ?_
  refine TC.region ?_
  refine TL.assign rfl rfl ?_
  refine TL.assign rfl rfl ?_
  refine TL.done ?_
  refine Thn.go ?_
  refine TC.seq ?_
  refine TC.seq ?_
  refine TC.region ?_
  refine TL.move rfl rfl ?_
  refine TL.lenStr Try.underlying9 rfl rfl ?_
  refine TL.rem_i64 rfl rfl (by omega) (by decide) rfl ?_
  refine TL.gtr rfl rfl rfl ?_
  refine TL.done ?_
  refine Thn.go ?_
  refine TC.condP rfl (fun h1 => ?_) (fun h1 => ?_)
  ·
    have hng : ¬ Hex.good s := fun g => by have := g.1; omega
    refine TC.seq ?_
    refine TC.region ?_
    refine TL.assign rfl rfl ?_
    refine TL.assign rfl rfl ?_
    refine TL.done ?_
    refine Thn.go ?_
    refine TC.ret ?_
    refine Thn.ret ?_
    refine Ends.ret [2, 3] rfl rfl ?_
    exact ⟨.slice none 0 0, by unfold Hex.unE; rw [if_neg hng]; rfl, by unfold Hex.unL; rw [if_neg hng]; exact World.ownsRow_nil _ _ _ _, Ch.refl _ _⟩
  ·
    have he : s.length % 2 = 0 := by omega
    refine TC.skip ?_
    refine Thn.go ?_
    refine TC.seq ?_
    refine TC.region ?_
    refine TL.move rfl rfl ?_
    refine TL.lenStr Try.underlying9 rfl rfl ?_
    refine TL.quo_i64 rfl rfl (by omega) (by omega) (by decide) rfl ?_
    refine TL.makeSlice ((s.length / 2)) sl50 rfl rfl (by omega) (by omega) (by omega) rfl (fun w14 hv14 hc14 hz14 => ?_)
    rw [made_bytes, ← Hex.st_zero] at hv14
    refine TL.assign rfl rfl ?_
    refine TL.done ?_
    refine Thn.go ?_
    refine TC.seq ?_
    refine TC.seq ?_
    refine TC.region ?_
    refine TL.move rfl rfl ?_
    refine TL.lenStr Try.underlying9 rfl rfl ?_
    refine TL.move rfl rfl ?_
    refine TL.done ?_
    refine Thn.go ?_
    refine TC.block ?_
    refine TC.loop1 (fun (k : Nat) => [(0, str s), (4, .slice (some ⟨w.heap.size, 0, none⟩) (s.length / 2) (s.length / 2)), (16, .int .i64 (s.length : Int)), (17, .int .i64 (k : Int))]) (fun k w' => k ≤ s.length ∧ (∀ i, i < k → Hex.goodAt s i = true) ∧ Own w' w.heap.size 5 1 (.slice (some ⟨w.heap.size, 0, none⟩) (s.length / 2) (s.length / 2)) (s.length / 2) ((Hex.st s k).map u8) ∧ Ch [] w w') (fun k => s.length - k) 0 (by repeat (first | exact trivial | refine ⟨rfl, ?_⟩)) (⟨by omega, by intro i hi; omega, hv14, hc14⟩) (fun k w' hH => ?_)
    obtain ⟨hk, hgd, hown, hch⟩ := hH
    refine TC.seq ?_
    refine TC.region ?_
    refine TL.lss rfl rfl rfl ?_
    refine TL.done ?_
    refine Thn.go ?_
    refine TC.seq ?_
    refine TC.condP rfl (fun h2 => ?_) (fun h2 => ?_)
    ·
      have hkl : k < s.length := by omega
      refine TC.skip ?_
      refine Thn.go ?_
      refine TC.seq ?_
      refine TC.block ?_
      refine TC.seq ?_
      refine TC.region ?_
      refine TL.move rfl rfl ?_
      refine TL.assign rfl rfl ?_
      refine TL.done ?_
      refine Thn.go ?_
      refine TC.seq ?_
      refine TC.region ?_
      refine TL.move rfl rfl ?_
      refine TL.move rfl rfl ?_
      refine TL.indexStr (l := s) (j := k) (b := s.getD k 0) Try.underlying9 rfl rfl rfl (map_getD s k 0 hkl) rfl ?_
      refine TL.call can60 rfl rfl (fn60 (s.getD k 0) w') (fun v23 w23 hr23 => ?_)
      obtain ⟨rfl, rfl⟩ := hr23
      refine TL.assign rfl rfl ?_
      refine TL.done ?_
      refine Thn.go ?_
      refine TC.seq ?_
      refine TC.seq ?_
      refine TC.region ?_
      refine TL.move rfl rfl ?_
      refine TL.lss rfl rfl rfl ?_
      refine TL.done ?_
      refine Thn.go ?_
      refine TC.condP rfl (fun h3 => ?_) (fun h3 => ?_)
      ·
        have hng : ¬ Hex.good s := Hex.not_good hkl ((Hex.wI_neg _).1 h3)
        refine TC.seq ?_
        refine TC.region ?_
        refine TL.assign rfl rfl ?_
        refine TL.assign rfl rfl ?_
        refine TL.done ?_
        refine Thn.go ?_
        refine TC.ret ?_
        refine Thn.ret ?_
        refine Blk.ret ?_
        refine Thn.ret ?_
        refine Lp.ret ?_
        refine Blk.ret ?_
        refine Thn.ret ?_
        refine Ends.ret [2, 3] rfl rfl ?_
        exact ⟨.slice none 0 0, by unfold Hex.unE; rw [if_neg hng]; rfl, by unfold Hex.unL; rw [if_neg hng]; exact World.ownsRow_nil _ _ _ _, hch⟩
      ·
        have hwp := Hex.wI_pos h3
        have hwl := Hex.worth_lt (s.getD k 0)
        have hstl := Hex.st_len s k
        obtain ⟨cur, hh, hsz, hmc, hcm, hbg, htk⟩ := hown.has
        obtain ⟨g', off', e, hcell⟩ := Rd.byteAt (l := Hex.st s k) (Rd.ofOwn hown) (i := k / 2) (by omega)
        cases e
        refine TC.skip ?_
        refine Thn.go ?_
        refine TC.region ?_
        refine TL.move rfl rfl ?_
        refine TL.move rfl rfl ?_
        refine TL.quo_i64 rfl rfl (by omega) (by omega) (by decide) rfl ?_
        refine TL.move rfl rfl ?_
        refine TL.move rfl rfl ?_
        refine TL.quo_i64 rfl rfl (by omega) (by omega) (by decide) rfl ?_
        refine TL.indexAddr (k / 2) sl50 rfl rfl (by first | rfl | omega) (by omega) rfl ?_
        refine TL.load pl5 rfl (hcell) rfl ?_
        refine TL.shl_u8 rfl rfl (by decide) rfl ?_
        refine TL.move rfl rfl ?_
        refine TL.convI_u8 Try.underlying3 Try.underlying5 rfl rfl ?_
        refine TL.top (v' := u8 (UInt8.ofNat (Hex.wN (s.getD k 0)))) (by rw [hwp]; congr 2; omega) ?_
        refine TL.or_u8 rfl rfl rfl ?_
        refine TL.indexAddr (k / 2) sl50 rfl rfl (by first | rfl | omega) (by omega) rfl ?_
        refine TL.store sz5 rfl rfl rfl (hh) (by first | omega | simp [Value.cells]) (by simp [Value.cells, Value.oneCell']) (.inl rfl) (fun ws1 hbs1 hcs1 hzs1 => ?_)
        replace hbs1 := hbs1.setOne rfl (by omega)
        rw [Nat.zero_add, Nat.mul_one] at hbs1
        refine TL.done ?_
        refine Blk.go ?_
        refine Thn.go ?_
        refine TC.region ?_
        refine TL.add_i64 rfl rfl (by omega) (by omega) rfl ?_
        refine TL.move rfl rfl ?_
        refine TL.done ?_
        refine Lp.go (k + 1) (by repeat (first | exact trivial | refine ⟨rfl, ?_⟩)) ?_ (by first | omega | (dsimp only; omega))
        refine ⟨by omega, fun i hi => ?_, ?_, hch.then1 hcs1 (Nat.le_refl _)⟩
        · rcases Nat.lt_or_ge i k with h' | h'
          · exact hgd i h'
          · rw [show i = k by omega]; exact Hex.good_at h3
        · rw [← Hex.st_step hkl he, List.map_set]
          exact hown.store1 hh hbs1
    ·
      have hkl : k = s.length := by omega
      subst hkl
      have hg : Hex.good s := ⟨he, hgd⟩
      rw [Hex.st_end he] at hown
      refine TC.exit ?_
      refine Thn.exit ?_
      refine Lp.exit ?_
      refine Blk.hit ?_
      refine Thn.go ?_
      refine TC.seq ?_
      refine TC.region ?_
      refine TL.move rfl rfl ?_
      refine TL.assign rfl rfl ?_
      refine TL.assign rfl rfl ?_
      refine TL.done ?_
      refine Thn.go ?_
      refine TC.ret ?_
      refine Ends.ret [2, 3] rfl rfl ?_
      exact ⟨_, by unfold Hex.unE; rw [if_pos hg]; rfl, by unfold Hex.unL; rw [if_pos hg, Hex.unV_len]; exact hown, hch⟩

theorem fn48 (s : List UInt8) (hs : s.length ≤ 100000) (w : World) : Rets Try.prog 48 #[str s] w (fun v w' => ∃ r, v = .tuple #[r, .int .i64 (Hex.unE s : Int)] ∧ Own w' w.heap.size 5 1 r (Hex.unL s).length ((Hex.unL s).map u8) ∧ Ch [] w w') := by
  have hmm : maxLen = 9223372036854775807 := rfl
  refine Rets.of (n := 42) (vs := [_]) Try.func48 rfl rfl rfl ?_
  refine TC.seq ?_
  refine TC.region ?_
  refine TL.assign rfl rfl ?_
  refine TL.assign rfl rfl ?_
  refine TL.done ?_
  refine Thn.go ?_
  refine TC.seq ?_
  refine TC.seq ?_
  refine TC.region ?_
  refine TL.move rfl rfl ?_
  refine TL.lenStr Try.underlying9 rfl rfl ?_
  refine TL.rem_i64 rfl rfl (by omega) (by decide) rfl ?_
  refine TL.neq rfl rfl rfl ?_
  refine TL.done ?_
  refine Thn.go ?_
  refine TC.condP rfl (fun h1 => ?_) (fun h1 => ?_)
  ·
    have hng : ¬ Hex.good s := fun g => by have := g.1; omega
    refine TC.seq ?_
    refine TC.region ?_
    refine TL.assign rfl rfl ?_
    refine TL.assign rfl rfl ?_
    refine TL.done ?_
    refine Thn.go ?_
    refine TC.ret ?_
    refine Thn.ret ?_
    refine Ends.ret [2, 3] rfl rfl ?_
    exact ⟨.slice none 0 0, by unfold Hex.unE; rw [if_neg hng]; rfl, by unfold Hex.unL; rw [if_neg hng]; exact World.ownsRow_nil _ _ _ _, Ch.refl _ _⟩
  ·
    have he : s.length % 2 = 0 := by omega
    refine TC.skip ?_
    refine Thn.go ?_
    refine TC.seq ?_
    refine TC.region ?_
    refine TL.assign rfl rfl ?_
    refine TL.done ?_
    refine Thn.go ?_
    refine TC.seq ?_
    refine TC.seq ?_
    refine TC.region ?_
    refine TL.assign rfl rfl ?_
    refine TL.done ?_
    refine Thn.go ?_
    refine TC.block ?_
    refine TC.loop2 (fun (k : Nat) (v : Value) => [(0, str s), (4, v), (5, .int .i64 (2 * (k : Int)))]) (fun k v w' => 2 * k ≤ s.length ∧ (∀ i, i < 2 * k → Hex.goodAt s i = true) ∧ Own w' w.heap.size 5 1 v k (((List.range k).map (Hex.pairAt s)).map u8) ∧ Ch [] w w') (fun k _ => s.length - 2 * k) 0 (.slice none 0 0) (by repeat (first | exact trivial | refine ⟨rfl, ?_⟩)) (⟨by omega, by intro i hi; omega, World.ownsRow_nil _ _ _ _, Ch.refl _ _⟩) (fun k v w' hH => ?_)
    obtain ⟨hk, hgd, hown, hch⟩ := hH
    refine TC.seq ?_
    refine TC.seq ?_
    refine TC.region ?_
    refine TL.move rfl rfl ?_
    refine TL.move rfl rfl ?_
    refine TL.lenStr Try.underlying9 rfl rfl ?_
    refine TL.lss rfl rfl rfl ?_
    refine TL.done ?_
    refine Thn.go ?_
    refine TC.condP rfl (fun h2 => ?_) (fun h2 => ?_)
    ·
      have hkl : 2 * k + 1 < s.length := by omega
      have hsz := hch.size
      refine TC.skip ?_
      refine Thn.go ?_
      refine TC.seq ?_
      refine TC.block ?_
      refine TC.seq ?_
      refine TC.region ?_
      refine TL.move rfl rfl ?_
      refine TL.move rfl rfl ?_
      refine TL.indexStr (l := s) (j := 2 * k) (b := s.getD (2 * k) 0) Try.underlying9 rfl rfl (by omega) (map_getD s (2 * k) 0 (by omega)) rfl ?_
      refine TL.call can62 rfl rfl (fn62 (s.getD (2 * k) 0) w') (fun v21 w21 hr21 => ?_)
      obtain ⟨rfl, rfl⟩ := hr21
      refine TL.assign rfl rfl ?_
      refine TL.done ?_
      refine Thn.go ?_
      refine TC.seq ?_
      refine TC.region ?_
      refine TL.move rfl rfl ?_
      refine TL.move rfl rfl ?_
      refine TL.add_i64 rfl rfl (by omega) (by omega) rfl ?_
      refine TL.indexStr (l := s) (j := 2 * k + 1) (b := s.getD (2 * k + 1) 0) Try.underlying9 rfl rfl (by omega) (map_getD s (2 * k + 1) 0 hkl) rfl ?_
      refine TL.call can62 rfl rfl (fn62 (s.getD (2 * k + 1) 0) w21) (fun v26 w26 hr26 => ?_)
      obtain ⟨rfl, rfl⟩ := hr26
      refine TL.assign rfl rfl ?_
      refine TL.done ?_
      refine Thn.go ?_
      refine TC.seq ?_
      refine TC.regionBool (d := 32) (p := (Hex.wI (s.getD (2 * k) 0) < 0 ∨ Hex.wI (s.getD (2 * k + 1) 0) < 0)) (fun K3 hK3 => ?_) ?_
      ·
        refine TL.move rfl rfl ?_
        refine TL.lss rfl rfl rfl ?_
        refine TL.em (fun e28 => ?_) (fun e28 => ?_)
        ·
          refine TL.move rfl rfl ?_
          refine TL.guardNo (d := 29) rfl rfl rfl rfl rfl ?_
          refine TL.guardNo (d := 29) rfl rfl rfl rfl rfl ?_
          refine TL.pickT rfl rfl rfl rfl ?_
          refine TL.done ?_
          refine hK3 _ ?_
          refine Le.here rfl (by first | exact decide_eq_true (by omega) | exact decide_eq_false (by omega) | exact decide_eq_decide.2 (by omega) | exact decide_eq_true (by grind) | exact decide_eq_false (by grind) | exact decide_eq_decide.2 (by grind)) ?_
          repeat (first | exact Le.refl _ | refine Le.skip rfl ?_)
        ·
          refine TL.move rfl rfl ?_
          refine TL.guardYes (d := 29) rfl rfl rfl ?_
          refine TL.move rfl rfl ?_
          refine TL.guardYes (d := 29) rfl rfl rfl ?_
          refine TL.lss rfl rfl rfl ?_
          refine TL.pickF rfl rfl rfl rfl ?_
          refine TL.done ?_
          refine hK3 _ ?_
          refine Le.here rfl (by first | exact decide_eq_true (by omega) | exact decide_eq_false (by omega) | exact decide_eq_decide.2 (by omega) | exact decide_eq_true (by grind) | exact decide_eq_false (by grind) | exact decide_eq_decide.2 (by grind)) ?_
          repeat (first | exact Le.refl _ | refine Le.skip rfl ?_)
      refine TC.condP rfl (fun h5 => ?_) (fun h5 => ?_)
      ·
        have hng : ¬ Hex.good s := by rcases h5 with h | h; exact Hex.not_good (by omega) ((Hex.wI_neg _).1 h); exact Hex.not_good hkl ((Hex.wI_neg _).1 h)
        refine TC.seq ?_
        refine TC.region ?_
        refine TL.assign rfl rfl ?_
        refine TL.assign rfl rfl ?_
        refine TL.done ?_
        refine Thn.go ?_
        refine TC.ret ?_
        refine Thn.ret ?_
        refine Blk.ret ?_
        refine Thn.ret ?_
        refine Lp.ret ?_
        refine Blk.ret ?_
        refine Thn.ret ?_
        refine Ends.ret [2, 3] rfl rfl ?_
        exact ⟨.slice none 0 0, by unfold Hex.unE; rw [if_neg hng]; rfl, by unfold Hex.unL; rw [if_neg hng]; exact World.ownsRow_nil _ _ _ _, hch⟩
      ·
        have ha : ¬ Hex.wI (s.getD (2 * k) 0) < 0 := by omega
        have hb : ¬ Hex.wI (s.getD (2 * k + 1) 0) < 0 := by omega
        have wa := Hex.wI_pos ha
        have wb := Hex.wI_pos hb
        have la := Hex.worth_lt (s.getD (2 * k) 0)
        have lb := Hex.worth_lt (s.getD (2 * k + 1) 0)
        refine TC.skip ?_
        refine Thn.go ?_
        refine TC.region ?_
        refine TL.move rfl rfl ?_
        refine TL.move rfl rfl ?_
        refine TL.mul_i64 rfl rfl (by omega) (by omega) rfl ?_
        refine TL.move rfl rfl ?_
        refine TL.add_i64 rfl rfl (by omega) (by omega) rfl ?_
        refine TL.convI_u8 Try.underlying3 Try.underlying5 rfl rfl ?_
        refine TL.top (v' := u8 (Hex.pairAt s k)) (by rw [Hex.pairAt, wa, wb]; congr 2; omega) ?_
        refine TL.buildSlice [.tmp 38] sl50 rfl rfl rfl (by decide) (by first | simp [Value.cells]; done | simp [Value.cells, cl_len]; done) rfl (fun w39 hb39 hc39 hz39 => ?_)
        refine TL.append sl50 rfl rfl rfl (hown.ch0 hc39) (News.ofRd Try.underlying50 (Rd.byte _ hb39) (one_byte _)) (by omega) (by omega) (by omega) (fun v40 w40 hv40 hc40 _ => ?_)
        refine TL.assign rfl rfl ?_
        refine TL.done ?_
        refine Blk.go ?_
        refine Thn.go ?_
        refine TC.region ?_
        refine TL.move rfl rfl ?_
        refine TL.add_i64 rfl rfl (by omega) (by omega) rfl ?_
        refine TL.assign rfl rfl ?_
        refine TL.done ?_
        refine Lp.go ((k + 1, v40)) (by repeat (first | exact trivial | refine ⟨rfl, ?_⟩)) ?_ (by first | omega | (dsimp only; omega))
        refine ⟨by show 2 * (k + 1) ≤ _; omega, fun i hi => ?_, by rw [List.range_succ, List.map_append, List.map_append]; exact hv40, (hown.ch0 hc39).thenCh (hch.trans0 hc39) hc40⟩
        replace hi : i < 2 * (k + 1) := hi
        rcases Nat.lt_or_ge i (2 * k) with h' | h'
        · exact hgd i h'
        · rcases Nat.eq_or_lt_of_le h' with h'' | h''
          · rw [← h'']; exact Hex.good_at ha
          · rw [show i = 2 * k + 1 by omega]; exact Hex.good_at hb
    ·
      have hkl : k = s.length / 2 := by omega
      have hg : Hex.good s := ⟨he, fun i hi => hgd i (by omega)⟩
      subst hkl
      refine TC.exit ?_
      refine Thn.exit ?_
      refine Lp.exit ?_
      refine Blk.hit ?_
      refine Thn.go ?_
      refine TC.seq ?_
      refine TC.region ?_
      refine TL.move rfl rfl ?_
      refine TL.assign rfl rfl ?_
      refine TL.assign rfl rfl ?_
      refine TL.done ?_
      refine Thn.go ?_
      refine TC.ret ?_
      refine Ends.ret [2, 3] rfl rfl ?_
      exact ⟨_, by unfold Hex.unE; rw [if_pos hg]; rfl, by unfold Hex.unL; rw [if_pos hg, Hex.unV_len]; exact hown, hch⟩

