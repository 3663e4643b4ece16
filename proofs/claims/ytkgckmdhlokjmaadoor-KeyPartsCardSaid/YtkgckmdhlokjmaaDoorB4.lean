/-
  Walks through the given program: each theorem fnN says what the call of function N of the translation hands back, for all arguments that its premises describe, and that nothing that was there has turned.
-/
import Derived.Test.YtkgckmdhlokjmaaDoorB3
namespace Go.Proofs.YtkgckmdhlokjmaaDoor
open Go.Lane
open Go.Key
open Go.RowKit (Below)
theorem can20 : Callable Tryd.prog 20 := ⟨Tryd.f20, Tryd.func20, by kernel_rfl, rfl⟩
theorem can24 : Callable Tryd.prog 24 := ⟨Tryd.f24, Tryd.func24, by kernel_rfl, rfl⟩
theorem can27 : Callable Tryd.prog 27 := ⟨Tryd.f27, Tryd.func27, by kernel_rfl, rfl⟩
theorem can44 : Callable Tryd.prog 44 := ⟨Tryd.f44, Tryd.func44, by kernel_rfl, rfl⟩
theorem ze48 : ZeroT Tryd.prog 48 (.agg #[.pointer none, .slice none 0 0]) := by unfold ZeroT; kernel_rfl
theorem cut_app : ∀ s : List UInt8, (Go.Lib.cut s [0]).2.2 = true → s = (Go.Lib.cut s [0]).1 ++ 0 :: (Go.Lib.cut s [0]).2.1
  | [], h => by simp [cut_nil] at h
  | b :: l, h => by
    by_cases hb : b = 0
    · subst hb; rw [cut_zero]; rfl
    · rw [cut_other hb] at h ⊢
      exact congrArg (b :: ·) (cut_app l h)
/-- What the text's reader tells. -/
def txt (o : Option (List UInt8 × List UInt8)) : Value := .tuple #[str ((o.map (·.1)).getD []), str ((o.map (·.2)).getD []), .bool o.isSome]

theorem fn35 (s : List UInt8) (hs : s.length ≤ 100000) (w : World) (h : Sh w) : Rets Tryd.prog 35 #[str s] w (fun r w' => r = txt (unesc s) ∧ Ch [] w w') := by
  refine Rets.of (n := 34) (vs := [_]) Tryd.func35 rfl rfl rfl ?_
  refine TC.seq ?_
  refine TC.region ?_
  refine TL.assign rfl rfl ?_
  refine TL.assign rfl rfl ?_
  refine TL.assign rfl rfl ?_
  refine TL.done ?_
  refine Thn.go ?_
  refine TC.seq ?_
  refine TC.region ?_
  refine TL.alloc ze48 rfl (fun w5 hb5 hc5 hz5 => ?_)
  refine TL.done ?_
  refine Thn.go ?_
  refine TC.block ?_
  refine TC.loop2 (fun (rest : List UInt8) (acc : List UInt8) => [(0, str rest), (5, .pointer (some ⟨w.heap.size, 0, none⟩))]) (fun rest acc w' => unesc s = (unesc rest).map (fun p => (acc ++ p.1, p.2)) ∧ acc.length + rest.length ≤ s.length ∧ (∃ v, Bd w.heap.size v acc w' ∧ ∀ k, v.ownBlock = some k → w.heap.size ≤ k) ∧ Ch [] w w') (fun rest _ => rest.length) s [] (by repeat (first | exact trivial | refine ⟨rfl, ?_⟩)) (⟨by cases unesc s <;> rfl, by simp, ⟨.slice none 0 0, ⟨none, .inl rfl, hb5, World.ownsRow_nil _ _ _ _, by simp [Value.ownBlock]⟩, by simp [Value.ownBlock]⟩, hc5⟩) (fun rest acc w' hI => ?_)
  obtain ⟨hun, hlen, ⟨v, hbd, hvb⟩, hch⟩ := hI
  have hcu := unesc_cut rest
  refine TC.block ?_
  refine TC.seq ?_
  refine TC.region ?_
  refine TL.move rfl rfl ?_
  refine TL.call can44 rfl rfl (fn44 rest (by omega) w' (h.ch0 hch)) (fun v11 w11 hr11 => ?_)
  obtain ⟨rfl, hc11⟩ := hr11
  have hca := cut_app rest
  obtain ⟨⟨ah, be, is⟩, hct⟩ : ∃ q, Go.Lib.cut rest [0] = q := ⟨_, rfl⟩
  rw [hct] at hcu hca ⊢
  have q11 := hch.trans0 hc11
  refine TL.move rfl rfl ?_
  refine TL.extract rfl rfl rfl ?_
  refine TL.extract rfl rfl rfl ?_
  refine TL.extract rfl rfl rfl ?_
  refine TL.assign rfl rfl ?_
  refine TL.assign rfl rfl ?_
  refine TL.assign rfl rfl ?_
  refine TL.done ?_
  refine Thn.go ?_
  refine TC.seq ?_
  refine TC.regionBool (d := 20) (p := (is = false ∨ be = [])) (fun K1 hK1 => ?_) ?_
  ·
    refine TL.move rfl rfl ?_
    refine TL.emB (fun e15 => ?_) (fun e15 => ?_)
    ·
      refine TL.not rfl rfl ?_
      refine TL.move rfl rfl ?_
      refine TL.guardYes (d := 17) rfl rfl rfl ?_
      refine TL.move rfl rfl ?_
      refine TL.guardYes (d := 17) rfl rfl rfl ?_
      refine TL.eqlStr rfl rfl rfl ?_
      refine TL.pickF rfl rfl rfl rfl ?_
      refine TL.done ?_
      refine hK1 _ ?_
      refine Le.here rfl (by first | exact decide_eq_true (by omega) | exact decide_eq_false (by omega) | exact decide_eq_decide.2 (by omega) | exact decide_eq_true (by grind) | exact decide_eq_false (by grind) | exact decide_eq_decide.2 (by grind)) ?_
      repeat (first | exact Le.refl _ | refine Le.skip rfl ?_)
    ·
      refine TL.not rfl rfl ?_
      refine TL.move rfl rfl ?_
      refine TL.guardNo (d := 17) rfl rfl rfl rfl rfl ?_
      refine TL.guardNo (d := 17) rfl rfl rfl rfl rfl ?_
      refine TL.pickT rfl rfl rfl rfl ?_
      refine TL.done ?_
      refine hK1 _ ?_
      refine Le.here rfl (by first | exact decide_eq_true (by omega) | exact decide_eq_false (by omega) | exact decide_eq_decide.2 (by omega) | exact decide_eq_true (by grind) | exact decide_eq_false (by grind) | exact decide_eq_decide.2 (by grind)) ?_
      repeat (first | exact Le.refl _ | refine Le.skip rfl ?_)
  refine TC.condP rfl (fun h2 => ?_) (fun h2 => ?_)
  ·
    rw [if_pos (by assumption)] at hcu
    refine TC.seq ?_
    refine TC.region ?_
    refine TL.assign rfl rfl ?_
    refine TL.assign rfl rfl ?_
    refine TL.assign rfl rfl ?_
    refine TL.done ?_
    refine Thn.go ?_
    refine TC.ret ?_
    refine Thn.ret ?_
    refine Blk.ret ?_
    refine Lp.ret ?_
    refine Blk.ret ?_
    refine Ends.ret [2, 3, 4] rfl rfl ?_
    exact ⟨by rw [hun, hcu]; rfl, q11⟩
  ·
    have hno : ¬ (is = false ∨ be = []) := by assumption
    rw [if_neg hno] at hcu
    obtain rfl : is = true := by cases is; exact absurd (.inl rfl) hno; rfl
    obtain ⟨d, u, rfl⟩ : ∃ d u, be = d :: u := by cases be with
      | nil => exact absurd (.inr rfl) hno
      | cons d u => exact ⟨d, u, rfl⟩
    have hrl : rest.length = ah.length + 1 + (u.length + 1) := by have := congrArg List.length (hca rfl); simpa [Nat.add_assoc, Nat.add_comm 1] using this
    replace hcu : unesc rest = if d = 1 then some (ah, u) else if d = 255 then (unesc u).map (fun p => (ah ++ 0 :: p.1, p.2)) else none := hcu
    refine TC.skip ?_
    refine Thn.go ?_
    refine TC.seq ?_
    refine TC.region ?_
    refine TL.move rfl rfl ?_
    refine TL.call can24 rfl rfl (fn24 _ v acc ah w11 (hbd.ch0 hc11) (by omega)) (fun v22 w22 hr22 => ?_)
    obtain ⟨⟨v2, hbd2, hvb2⟩, hc22⟩ := hr22
    have q22 : Ch [] w w22 := q11.thenS hc22 (fun x hx => by rcases List.mem_cons.1 hx with h | h; omega; exact hvb x (by simpa [blk] using h))
    have hvb3 : ∀ k, v2.ownBlock = some k → w.heap.size ≤ k := fun k hk => by
      rcases hvb2 k hk with h | h
      · exact hvb k h
      · have := q11.size; omega
    refine TL.done ?_
    refine Thn.go ?_
    refine TC.seq ?_
    refine TC.region ?_
    refine TL.move rfl rfl ?_
    refine TL.strFrom (j := 1) Tryd.underlying9 rfl rfl rfl (by simp) rfl ?_
    refine TL.assign rfl rfl ?_
    refine TL.done ?_
    refine Thn.go ?_
    refine TC.seq ?_
    refine TC.region ?_
    refine TL.move rfl rfl ?_
    refine TL.indexStr (l := d :: u) (j := 0) (b := d) Tryd.underlying9 rfl rfl rfl rfl rfl ?_
    refine TL.done ?_
    refine Thn.go ?_
    refine TC.block ?_
    refine TC.seq ?_
    refine TC.region ?_
    refine TL.eql rfl rfl rfl ?_
    refine TL.assign rfl rfl ?_
    refine TL.done ?_
    refine Thn.go ?_
    refine TC.condP rfl (fun h3 => ?_) (fun h3 => ?_)
    ·
      have hd : d = 1 := kind_eq.1 (by assumption)
      rw [if_pos hd] at hcu
      refine TC.seq ?_
      refine TC.region ?_
      refine TL.call can27 rfl rfl (fn27 _ v2 _ w22 hbd2) (fun v29 w29 hr29 => ?_)
      obtain ⟨rfl, hb29⟩ := hr29
      refine TL.move rfl rfl ?_
      refine TL.assign rfl rfl ?_
      refine TL.assign rfl rfl ?_
      refine TL.assign rfl rfl ?_
      refine TL.done ?_
      refine Thn.go ?_
      refine TC.ret ?_
      refine Blk.ret ?_
      refine Blk.ret ?_
      refine Lp.ret ?_
      refine Blk.ret ?_
      refine Ends.ret [2, 3, 4] rfl rfl ?_
      exact ⟨by rw [hun, hcu]; rfl, q22.thenBelow hb29 (Nat.le_refl _)⟩
    ·
      have hd : ¬ d = 1 := fun e => absurd (congrArg (fun x : UInt8 => (x.toNat : Int)) e) (by assumption)
      rw [if_neg hd] at hcu
      refine TC.seq ?_
      refine TC.region ?_
      refine TL.eql rfl rfl rfl ?_
      refine TL.assign rfl rfl ?_
      refine TL.done ?_
      refine Thn.go ?_
      refine TC.condP rfl (fun h4 => ?_) (fun h4 => ?_)
      ·
        have hd2 : d = 255 := kind_eq.1 (by assumption)
        rw [if_pos hd2] at hcu
        refine TC.region ?_
        refine TL.call can20 rfl rfl (fn20 _ v2 (acc ++ ah) 0 w22 hbd2 (by simp; omega)) (fun v33 w33 hr33 => ?_)
        obtain ⟨⟨v4, hbd4, hvb4⟩, hc33⟩ := hr33
        refine TL.done ?_
        refine Blk.go ?_
        refine Blk.go ?_
        refine Lp.go ((u, acc ++ ah ++ [0])) (by repeat (first | exact trivial | refine ⟨rfl, ?_⟩)) ?_ (by first | omega | (dsimp only; omega))
        refine ⟨by rw [hun, hcu, Option.map_map]; congr 1; funext p; simp, by simp; omega, ⟨v4, hbd4, fun k hk => ?_⟩, q22.thenS hc33 (fun x hx => by rcases List.mem_cons.1 hx with h | h; omega; exact hvb3 x (by simpa [blk] using h))⟩
        rcases hvb4 k hk with h | h
        · exact hvb3 k h
        · have := q22.size; omega
      ·
        have hd2 : ¬ d = 255 := fun e => absurd (congrArg (fun x : UInt8 => (x.toNat : Int)) e) (by assumption)
        rw [if_neg hd2] at hcu
        refine TC.seq ?_
        refine TC.region ?_
        refine TL.assign rfl rfl ?_
        refine TL.assign rfl rfl ?_
        refine TL.assign rfl rfl ?_
        refine TL.done ?_
        refine Thn.go ?_
        refine TC.ret ?_
        refine Blk.ret ?_
        refine Blk.ret ?_
        refine Lp.ret ?_
        refine Blk.ret ?_
        refine Ends.ret [2, 3, 4] rfl rfl ?_
        exact ⟨by rw [hun, hcu]; rfl, q22⟩

