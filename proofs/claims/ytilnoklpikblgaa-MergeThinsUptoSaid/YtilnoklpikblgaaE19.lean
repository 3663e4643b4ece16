/-
  Walks through the given program: each theorem fnN says what the call of function N of the translation hands back, for all arguments that its premises describe, and that nothing that was there has turned.
-/
import Derived.Test.YtilnoklpikblgaaE18
namespace Go.Proofs.Ytilnoklpikblgaa
open Go.Lane
theorem can25 : Callable Try.prog 25 := ⟨Try.f25, Try.func25, by kernel_rfl, rfl⟩
theorem can26 : Callable Try.prog 26 := ⟨Try.f26, Try.func26, by kernel_rfl, rfl⟩
/-- The rows of a twin, there to be written over. -/
def ZR (T : List Row) (w : World) : Prop := ∀ p ∈ T, 0 < p.2.length → ∃ g c cur, p.1 = .slice (some ⟨g, 0, none⟩) p.2.length c ∧ Has w g cur 32 (0, 0) ∧ p.2.length * 4 ≤ cur.size
theorem ZR.ofOwn {T : List Row} {w : World} {base : Nat} (h : ∀ p ∈ T, Own w base 32 4 p.1 p.2.length (p.2.flatMap cl)) : ZR T w := fun p hp h0 => by
  obtain ⟨g, c, e⟩ := (h p hp).form h0
  have h1 := h p hp
  rw [e] at h1
  obtain ⟨cur, hcur, hcsz, hcn, _⟩ := h1.has
  exact ⟨g, c, cur, e, hcur, by omega⟩
theorem ZR.store {T : List Row} {w w' : World} {g : Nat} {cur cur' : Array Value} (h : ZR T w) (h1 : Has w g cur 32 (0, 0)) (h2 : Has w' g cur' 32 (0, 0)) (hs : cur'.size = cur.size) (hc : Ch [g] w w') : ZR T w' := fun p hp h0 => by
  obtain ⟨g', c, cu, e, hcu, hsz⟩ := h p hp h0
  by_cases hg : g' = g
  · subst hg
    have e2 : cu = cur := by
      have := hcu.symm.trans h1
      simpa using this
    exact ⟨g', c, cur', e, h2, by rw [hs, ← e2]; exact hsz⟩
  · exact ⟨g', c, cu, e, hcu.ch hc (by simpa using hg), hsz⟩
/-- The blocks of a twin's rows. -/
def bks (T : List Row) : List Nat := T.flatMap fun p => blk p.1
theorem bks_in {T : List Row} {p : Row} (h : p ∈ T) {b : Nat} (hb : p.1.ownBlock = some b) : b ∈ bks T := List.mem_flatMap.2 ⟨p, h, by simp [blk, hb]⟩
theorem bks_own {T : List Row} {w : World} {base : Nat} (h : ∀ p ∈ T, Own w base 32 4 p.1 p.2.length (p.2.flatMap cl)) : ∀ x ∈ bks T, base ≤ x ∧ x < w.heap.size := fun x hx => by
  obtain ⟨p, hp, hb⟩ := List.mem_flatMap.1 hx
  have hb' : p.1.ownBlock = some x := by simpa [blk] using hb
  exact ⟨(h p hp).ge x hb', (h p hp).lt x hb'⟩

theorem fn9 (lv : Value) (l : List En.Entry) (q : Int) (t : Bool) (av : Value) (Ls : List Row) (k : List UInt8) (w : World) (hl : Rd w lv 4 l.length (l.flatMap cl)) (ha : Rd w av 1 Ls.length (vals Ls)) (hr : ∀ p ∈ Ls, Rd w p.1 4 p.2.length (p.2.flatMap cl)) (hsum : (Ls.map (·.2)).flatten.length ≤ 1048576) : Rets Try.prog 9 #[lv, .int .i64 q, .bool t, av, str k] w (fun r w' => r = .bool true ∧ Ch [] w w') := by
  obtain ⟨ad, c, rfl, _⟩ := ha.shape
  obtain ⟨ld, lc, rfl, _⟩ := hl.shape
  have hmm : maxLen = 9223372036854775807 := rfl
  obtain ⟨D, hD⟩ : ∃ D, Ls.map (·.2) = D := ⟨_, rfl⟩
  refine Rets.of (n := 175) (vs := [_, _, _, _, _]) Try.func9 rfl rfl rfl ?_
  refine TC.seq ?_
  refine TC.region ?_
  refine TL.assign rfl rfl ?_
  refine TL.done ?_
  refine Thn.go ?_
  refine TC.seq ?_
  refine TC.cut0 ([(0, .slice ld l.length lc), (1, .int .i64 q), (2, .bool t), (3, .slice ad Ls.length c), (4, str k), (48, .bool (decide (En.heavyP D ∨ (400 < l.length ∧ l.length ≤ 16384) ∨ 17000 < l.length ∨ 10000 < k.length)))]) (fun w3 => Ch [] w w3) (fun K1 hK1 => ?_) (fun w3 hH => ?_)
  ·
    refine TC.region ?_
    refine TL.move rfl rfl ?_
    refine TL.call can11 rfl rfl (fn11 _ Ls w ha hr (by omega)) (fun v28 w28 hr28 => ?_)
    rw [hD] at hr28
    obtain ⟨rfl, hc28⟩ := hr28
    refine TL.em (fun e28 => ?_) (fun e28 => ?_)
    ·
      refine TL.move rfl rfl ?_
      refine TL.guardNo (d := 29) rfl rfl rfl rfl rfl ?_
      refine TL.guardNo (d := 29) rfl rfl rfl rfl rfl ?_
      refine TL.guardNo (d := 29) rfl rfl rfl rfl rfl ?_
      refine TL.guardNo (d := 29) rfl rfl rfl rfl rfl ?_
      refine TL.guardUndef (d := 33) rfl rfl rfl rfl ?_
      refine TL.guardUndef (d := 33) rfl rfl rfl rfl ?_
      refine TL.guardUndef (d := 33) rfl rfl rfl rfl ?_
      refine TL.guardNo (d := 29) rfl rfl rfl rfl rfl ?_
      refine TL.pickT rfl rfl rfl rfl ?_
      refine TL.move rfl rfl ?_
      refine TL.guardNo (d := 39) rfl rfl rfl rfl rfl ?_
      refine TL.guardNo (d := 39) rfl rfl rfl rfl rfl ?_
      refine TL.guardNo (d := 39) rfl rfl rfl rfl rfl ?_
      refine TL.pickT rfl rfl rfl rfl ?_
      refine TL.move rfl rfl ?_
      refine TL.guardNo (d := 44) rfl rfl rfl rfl rfl ?_
      refine TL.guardNo (d := 44) rfl rfl rfl rfl rfl ?_
      refine TL.guardNo (d := 44) rfl rfl rfl rfl rfl ?_
      refine TL.pickT rfl rfl rfl rfl ?_
      refine TL.done ?_
      exact hK1  _ _ (by repeat (first | exact trivial | refine ⟨rfl, ?_⟩ | refine ⟨congrArg (fun b => some (Value.bool b)) (by first | exact (decide_eq_true (by grind)).symm | exact (decide_eq_false (by grind)).symm | exact decide_eq_decide.2 (by grind) | exact decide_eq_true (by grind) | exact decide_eq_false (by grind) | (exfalso; grind)), ?_⟩)) ((by first | exact hc28 | exact hw2))
    ·
      refine TL.move rfl rfl ?_
      refine TL.guardYes (d := 29) rfl rfl rfl ?_
      refine TL.move rfl rfl ?_
      refine TL.guardYes (d := 29) rfl rfl rfl ?_
      refine TL.lenSlice Try.underlying25 rfl rfl ?_
      refine TL.guardYes (d := 29) rfl rfl rfl ?_
      refine TL.gtr rfl rfl rfl ?_
      refine TL.em (fun e32 => ?_) (fun e32 => ?_)
      ·
        refine TL.guardYes (d := 29) rfl rfl rfl ?_
        refine TL.move rfl rfl ?_
        refine TL.guardYes (d := 33) rfl rfl rfl ?_
        refine TL.move rfl rfl ?_
        refine TL.guardYes (d := 33) rfl rfl rfl ?_
        refine TL.lenSlice Try.underlying25 rfl rfl ?_
        refine TL.guardYes (d := 33) rfl rfl rfl ?_
        refine TL.leq rfl rfl rfl ?_
        refine TL.em (fun e36 => ?_) (fun e36 => ?_)
        ·
          refine TL.guardYes (d := 29) rfl rfl rfl ?_
          refine TL.pickT rfl rfl rfl rfl ?_
          refine TL.pickF rfl rfl rfl rfl ?_
          refine TL.move rfl rfl ?_
          refine TL.guardNo (d := 39) rfl rfl rfl rfl rfl ?_
          refine TL.guardNo (d := 39) rfl rfl rfl rfl rfl ?_
          refine TL.guardNo (d := 39) rfl rfl rfl rfl rfl ?_
          refine TL.pickT rfl rfl rfl rfl ?_
          refine TL.move rfl rfl ?_
          refine TL.guardNo (d := 44) rfl rfl rfl rfl rfl ?_
          refine TL.guardNo (d := 44) rfl rfl rfl rfl rfl ?_
          refine TL.guardNo (d := 44) rfl rfl rfl rfl rfl ?_
          refine TL.pickT rfl rfl rfl rfl ?_
          refine TL.done ?_
          exact hK1  _ _ (by repeat (first | exact trivial | refine ⟨rfl, ?_⟩ | refine ⟨congrArg (fun b => some (Value.bool b)) (by first | exact (decide_eq_true (by grind)).symm | exact (decide_eq_false (by grind)).symm | exact decide_eq_decide.2 (by grind) | exact decide_eq_true (by grind) | exact decide_eq_false (by grind) | (exfalso; grind)), ?_⟩)) ((by first | exact hc28 | exact hw2))
        ·
          refine TL.guardYes (d := 29) rfl rfl rfl ?_
          refine TL.pickT rfl rfl rfl rfl ?_
          refine TL.pickF rfl rfl rfl rfl ?_
          refine TL.move rfl rfl ?_
          refine TL.guardYes (d := 39) rfl rfl rfl ?_
          refine TL.move rfl rfl ?_
          refine TL.guardYes (d := 39) rfl rfl rfl ?_
          refine TL.lenSlice Try.underlying25 rfl rfl ?_
          refine TL.guardYes (d := 39) rfl rfl rfl ?_
          refine TL.gtr rfl rfl rfl ?_
          refine TL.em (fun e42 => ?_) (fun e42 => ?_)
          ·
            refine TL.pickF rfl rfl rfl rfl ?_
            refine TL.move rfl rfl ?_
            refine TL.guardNo (d := 44) rfl rfl rfl rfl rfl ?_
            refine TL.guardNo (d := 44) rfl rfl rfl rfl rfl ?_
            refine TL.guardNo (d := 44) rfl rfl rfl rfl rfl ?_
            refine TL.pickT rfl rfl rfl rfl ?_
            refine TL.done ?_
            exact hK1  _ _ (by repeat (first | exact trivial | refine ⟨rfl, ?_⟩ | refine ⟨congrArg (fun b => some (Value.bool b)) (by first | exact (decide_eq_true (by grind)).symm | exact (decide_eq_false (by grind)).symm | exact decide_eq_decide.2 (by grind) | exact decide_eq_true (by grind) | exact decide_eq_false (by grind) | (exfalso; grind)), ?_⟩)) ((by first | exact hc28 | exact hw2))
          ·
            refine TL.pickF rfl rfl rfl rfl ?_
            refine TL.move rfl rfl ?_
            refine TL.guardYes (d := 44) rfl rfl rfl ?_
            refine TL.move rfl rfl ?_
            refine TL.guardYes (d := 44) rfl rfl rfl ?_
            refine TL.lenStr Try.underlying9 rfl rfl ?_
            refine TL.guardYes (d := 44) rfl rfl rfl ?_
            refine TL.gtr rfl rfl rfl ?_
            refine TL.pickF rfl rfl rfl rfl ?_
            refine TL.done ?_
            exact hK1  _ _ (by repeat (first | exact trivial | refine ⟨rfl, ?_⟩ | refine ⟨congrArg (fun b => some (Value.bool b)) (by first | exact (decide_eq_true (by grind)).symm | exact (decide_eq_false (by grind)).symm | exact decide_eq_decide.2 (by grind) | exact decide_eq_true (by grind) | exact decide_eq_false (by grind) | (exfalso; grind)), ?_⟩)) ((by first | exact hc28 | exact hw2))
      ·
        refine TL.guardYes (d := 29) rfl rfl rfl ?_
        refine TL.move rfl rfl ?_
        refine TL.guardNo (d := 33) rfl rfl rfl rfl rfl ?_
        refine TL.guardNo (d := 33) rfl rfl rfl rfl rfl ?_
        refine TL.guardNo (d := 33) rfl rfl rfl rfl rfl ?_
        refine TL.guardYes (d := 29) rfl rfl rfl ?_
        refine TL.pickF rfl rfl rfl rfl ?_
        refine TL.pickF rfl rfl rfl rfl ?_
        refine TL.move rfl rfl ?_
        refine TL.guardYes (d := 39) rfl rfl rfl ?_
        refine TL.move rfl rfl ?_
        refine TL.guardYes (d := 39) rfl rfl rfl ?_
        refine TL.lenSlice Try.underlying25 rfl rfl ?_
        refine TL.guardYes (d := 39) rfl rfl rfl ?_
        refine TL.gtr rfl rfl rfl ?_
        refine TL.em (fun e42 => ?_) (fun e42 => ?_)
        ·
          refine TL.pickF rfl rfl rfl rfl ?_
          refine TL.move rfl rfl ?_
          refine TL.guardNo (d := 44) rfl rfl rfl rfl rfl ?_
          refine TL.guardNo (d := 44) rfl rfl rfl rfl rfl ?_
          refine TL.guardNo (d := 44) rfl rfl rfl rfl rfl ?_
          refine TL.pickT rfl rfl rfl rfl ?_
          refine TL.done ?_
          exact hK1  _ _ (by repeat (first | exact trivial | refine ⟨rfl, ?_⟩ | refine ⟨congrArg (fun b => some (Value.bool b)) (by first | exact (decide_eq_true (by grind)).symm | exact (decide_eq_false (by grind)).symm | exact decide_eq_decide.2 (by grind) | exact decide_eq_true (by grind) | exact decide_eq_false (by grind) | (exfalso; grind)), ?_⟩)) ((by first | exact hc28 | exact hw2))
        ·
          refine TL.pickF rfl rfl rfl rfl ?_
          refine TL.move rfl rfl ?_
          refine TL.guardYes (d := 44) rfl rfl rfl ?_
          refine TL.move rfl rfl ?_
          refine TL.guardYes (d := 44) rfl rfl rfl ?_
          refine TL.lenStr Try.underlying9 rfl rfl ?_
          refine TL.guardYes (d := 44) rfl rfl rfl ?_
          refine TL.gtr rfl rfl rfl ?_
          refine TL.pickF rfl rfl rfl rfl ?_
          refine TL.done ?_
          exact hK1  _ _ (by repeat (first | exact trivial | refine ⟨rfl, ?_⟩ | refine ⟨congrArg (fun b => some (Value.bool b)) (by first | exact (decide_eq_true (by grind)).symm | exact (decide_eq_false (by grind)).symm | exact decide_eq_decide.2 (by grind) | exact decide_eq_true (by grind) | exact decide_eq_false (by grind) | (exfalso; grind)), ?_⟩)) ((by first | exact hc28 | exact hw2))
  ·
    refine TC.condP rfl (fun h7 => ?_) (fun h7 => ?_)
    ·
      refine TC.seq ?_
      refine TC.region ?_
      refine TL.assign rfl rfl ?_
      refine TL.done ?_
      refine Thn.go ?_
      refine TC.ret ?_
      refine Thn.ret ?_
      refine Ends.ret [10] rfl rfl ?_
      exact ⟨rfl, hH⟩
    ·
      have hno : ¬ (En.heavyP D ∨ (400 < l.length ∧ l.length ≤ 16384) ∨ 17000 < l.length ∨ 10000 < k.length) := by assumption
      obtain ⟨hn100, hn6⟩ := heavy_no (fun h => hno (.inl h))
      have hl17 : l.length ≤ 17000 := by omega
      have hLl : Ls.length ≤ 100 := by rw [← hD, List.length_map] at hn100; exact hn100
      refine TC.skip ?_
      refine Thn.go ?_
      refine TC.seq ?_
      refine TC.region ?_
      refine TL.move rfl rfl ?_
      refine TL.append (base := w3.heap.size) sl25 rfl rfl rfl (World.ownsRow_nil _ _ _ _) (News.ofRd Try.underlying25 (hl.ch0 hH) (rows_one _)) (by omega) (by omega) (Nat.le_refl _) (fun v50 w50 hv50 hc50 _ => ?_)
      rw [Nat.zero_add, List.nil_append] at hv50
      replace hc50 : Ch [] w3 w50 := hc50
      have q50 : Ch [] w w50 := hH.trans0 hc50
      refine TL.assign rfl rfl ?_
      refine TL.done ?_
      refine Thn.go ?_
      refine TC.seq ?_
      refine TC.region ?_
      refine TL.move rfl rfl ?_
      refine TL.call can15 rfl rfl (fn15 _ Ls w50 (ha.ch0 q50) (fun p hp => (hr p hp).ch0 q50) (by omega) (by omega)) (fun v52 w52 hr52 => ?_)
      obtain ⟨T, hT, hv52, hrw, hap, hpw, hc52⟩ := hr52
      have hTD := hT.trans hD
      have hS0 := bks_own hrw
      have q52 := q50.trans0 hc52
      obtain ⟨d52, p52, rfl⟩ := hv52.shape
      refine TL.assign rfl rfl ?_
      refine TL.done ?_
      refine Thn.go ?_
      refine TC.seq ?_
      refine TC.region ?_
      refine TL.move rfl rfl ?_
      refine TL.move rfl rfl ?_
      refine TL.move rfl rfl ?_
      refine TL.call can21 rfl rfl (fn21 _ l q t w52 (Rd.ofOwn (hv50.ch0 hc52))) (fun v57 w57 hr57 => ?_)
      obtain ⟨o57, rfl, hv57, hc57⟩ := hr57
      refine TL.move rfl rfl ?_
      refine TL.extract rfl rfl rfl ?_
      refine TL.extract rfl rfl rfl ?_
      refine TL.assign rfl rfl ?_
      refine TL.assign rfl rfl ?_
      refine TL.done ?_
      refine Thn.go ?_
      refine TC.seq ?_
      refine TC.region ?_
      refine TL.move rfl rfl ?_
      refine TL.move rfl rfl ?_
      refine TL.move rfl rfl ?_
      refine TL.call can25 rfl rfl (fn25 _ l q t w57 (hl.ch0 (q52.trans0 hc57))) (fun v64 w64 hr64 => ?_)
      obtain ⟨o64, rfl, hv64, hc64⟩ := hr64
      have k64 : Ch [] w52 w64 := hc57.trans0 hc64
      refine TL.move rfl rfl ?_
      refine TL.extract rfl rfl rfl ?_
      refine TL.extract rfl rfl rfl ?_
      refine TL.assign rfl rfl ?_
      refine TL.assign rfl rfl ?_
      refine TL.done ?_
      refine Thn.go ?_
      refine TC.seq ?_
      refine TC.region ?_
      refine TL.move rfl rfl ?_
      refine TL.move rfl rfl ?_
      refine TL.move rfl rfl ?_
      refine TL.call can22 rfl rfl (fn22 _ T q k w64 (Rd.ofOwn (hv52.ch0 k64)) (fun p hp => Rd.ofOwn ((hrw p hp).ch0 k64)) (by rw [hTD]; omega)) (fun v71 w71 hr71 => ?_)
      rw [hTD] at hr71
      obtain ⟨⟨pa, rfl, hpn, hps⟩, hc71⟩ := hr71
      have q71 : Ch [] w w71 := q52.trans0 (k64.trans0 hc71)
      refine TL.move rfl rfl ?_
      refine TL.extract rfl rfl rfl ?_
      refine TL.extract rfl rfl rfl ?_
      refine TL.assign rfl rfl ?_
      refine TL.assign rfl rfl ?_
      refine TL.done ?_
      refine Thn.go ?_
      refine TC.seq ?_
      refine TC.region ?_
      refine TL.move rfl rfl ?_
      refine TL.move rfl rfl ?_
      refine TL.move rfl rfl ?_
      refine TL.call can26 rfl rfl (fn26 _ Ls q k w71 (ha.ch0 q71) (fun p hp => (hr p hp).ch0 q71) (by rw [hD]; omega)) (fun v78 w78 hr78 => ?_)
      rw [hD] at hr78
      obtain ⟨o78, rfl, hv78, hc78⟩ := hr78
      obtain ⟨m, hm⟩ : ∃ m, En.newL D q k = m := ⟨_, rfl⟩
      rw [hm] at hv78 hps
      have hpi : pa = none ↔ ¬ ((En.newE D q k : Nat) : Int) = 0 := ⟨fun e h => (by obtain ⟨H, v, e2, _⟩ := hps (by omega); rw [e] at e2; cases e2), fun h => hpn (by omega)⟩
      obtain ⟨d78, p78, rfl⟩ := hv78.shape
      refine TL.move rfl rfl ?_
      refine TL.extract rfl rfl rfl ?_
      refine TL.extract rfl rfl rfl ?_
      refine TL.assign rfl rfl ?_
      refine TL.assign rfl rfl ?_
      refine TL.done ?_
      refine Thn.go ?_
      refine TC.seq ?_
      refine TC.seq ?_
      refine TC.region ?_
      refine TL.move rfl rfl ?_
      refine TL.move rfl rfl ?_
      refine TL.call can19 rfl rfl (fn19 _ _ (En.thinL l q t) (En.thinL l q t) w78 (Rd.ofOwn (((hv57.ch0 hc64).ch0 hc71).ch0 hc78)) (Rd.ofOwn ((hv64.ch0 hc71).ch0 hc78))) (fun v83 w83 hr83 => ?_)
      obtain ⟨rfl, hc83⟩ := hr83
      refine TL.yes (rfl) ?_
      refine TL.not rfl rfl ?_
      refine TL.move rfl rfl ?_
      refine TL.guardYes (d := 85) rfl rfl rfl ?_
      refine TL.move rfl rfl ?_
      refine TL.guardYes (d := 85) rfl rfl rfl ?_
      refine TL.move rfl rfl ?_
      refine TL.guardYes (d := 85) rfl rfl rfl ?_
      refine TL.neq rfl rfl rfl ?_
      refine TL.no (by simp) ?_
      refine TL.pickF rfl rfl rfl rfl ?_
      refine TL.move rfl rfl ?_
      refine TL.guardYes (d := 90) rfl rfl rfl ?_
      refine TL.move rfl rfl ?_
      refine TL.guardYes (d := 90) rfl rfl rfl ?_
      refine TL.move rfl rfl ?_
      refine TL.guardYes (d := 90) rfl rfl rfl ?_
      refine TL.neq rfl rfl rfl ?_
      refine TL.no (by simp) ?_
      refine TL.pickF rfl rfl rfl rfl ?_
      refine TL.move rfl rfl ?_
      refine TL.guardYes (d := 95) rfl rfl rfl ?_
      refine TL.move rfl rfl ?_
      refine TL.guardYes (d := 95) rfl rfl rfl ?_
      refine TL.eqlPtrNil Try.underlying43 rfl rfl rfl ?_
      refine TL.guardYes (d := 95) rfl rfl rfl ?_
      refine TL.move rfl rfl ?_
      refine TL.guardYes (d := 95) rfl rfl rfl ?_
      refine TL.neq rfl rfl rfl ?_
      refine TL.guardYes (d := 95) rfl rfl rfl ?_
      refine TL.neqBool Try.underlying4 rfl rfl rfl ?_
      refine TL.no (fun h => h (decide_eq_decide.2 hpi)) ?_
      refine TL.pickF rfl rfl rfl rfl ?_
      refine TL.move rfl rfl ?_
      refine TL.guardYes (d := 102) rfl rfl rfl ?_
      refine TL.move rfl rfl ?_
      refine TL.guardYes (d := 102) rfl rfl rfl ?_
      refine TL.move rfl rfl ?_
      refine TL.guardYes (d := 102) rfl rfl rfl ?_
      refine TL.call can19 rfl rfl (fn19 _ _ l l w83 (Rd.ofOwn ((((hv50.ch0 hc52).ch0 k64).ch0 (hc71.trans0 hc78)).ch0 hc83)) (hl.ch0 (q71.trans0 (hc78.trans0 hc83)))) (fun v105 w105 hr105 => ?_)
      obtain ⟨rfl, hc105⟩ := hr105
      have k105 : Ch [] w71 w105 := hc78.trans0 (hc83.trans0 hc105)
      refine TL.yes (rfl) ?_
      refine TL.guardYes (d := 102) rfl rfl rfl ?_
      refine TL.not rfl rfl ?_
      refine TL.pickF rfl rfl rfl rfl ?_
      refine TL.done ?_
      refine Thn.go ?_
      refine TC.condF rfl rfl ?_
      refine TC.skip ?_
      refine Thn.go ?_
      refine TC.seq ?_
      refine TC.seq ?_
      refine TC.region ?_
      refine TL.assign rfl rfl ?_
      refine TL.done ?_
      refine Thn.go ?_
      refine TC.block ?_
      refine TC.loop1 (fun (i : Nat) => [(12, .slice d52 T.length p52), (17, .pointer pa), (19, .slice d78 m.length p78), (21, .int .i64 (i : Int))]) (fun i w' => i ≤ T.length ∧ ZR T w' ∧ Ch (bks T) w105 w') (fun i => T.length - i) 0 (by repeat (first | exact trivial | refine ⟨rfl, ?_⟩)) (⟨by omega, ZR.ofOwn (fun p hp => (hrw p hp).ch0 ((k64.trans0 hc71).trans0 k105)), Ch.refl _ _⟩) (fun i w' hI => ?_)
      obtain ⟨hi, hz, hch⟩ := hI
      have hTl : T.length ≤ 100 := by have := congrArg List.length hTD; simp at this; omega
      refine TC.seq ?_
      refine TC.seq ?_
      refine TC.region ?_
      refine TL.move rfl rfl ?_
      refine TL.move rfl rfl ?_
      refine TL.lenSlice Try.underlying22 rfl rfl ?_
      refine TL.lss rfl rfl rfl ?_
      refine TL.done ?_
      refine Thn.go ?_
      refine TC.condP rfl (fun h9 => ?_) (fun h9 => ?_)
      ·
        have hil : i < T.length := by omega
        have hout : ∀ w2, Ch (bks T) w105 w2 → Rd w2 (.slice d52 T.length p52) 1 T.length (vals T) := fun w2 h2 => (Rd.ofOwn (hv52.ch0 ((k64.trans0 hc71).trans0 k105))).ch h2 (fun b h1 hb => by obtain ⟨p, hp, hb2⟩ := List.mem_flatMap.1 hb; exact hap p hp b h1 (by simpa [blk] using hb2))
        obtain ⟨b1, o1, rfl⟩ := (hout _ hch).some_ (by omega)
        have hcell : ∀ w2, Ch (bks T) w105 w2 → w2.cell? ⟨b1, o1 + i * 1, none⟩ = some T[i].1 := fun w2 h2 => Rd.eltIn (f := (·.1)) (hout w2 h2) hil
        have hmem := List.getElem_mem hil
        have hx1 := hrw _ hmem
        obtain ⟨x, ex⟩ : ∃ x, T[i] = x := ⟨_, rfl⟩
        rw [ex] at hcell hmem hx1
        obtain ⟨xv, r⟩ := x
        replace hx1 : Own w52 w50.heap.size 32 4 xv r.length (r.flatMap cl) := hx1
        have hrn := (Rd.ofOwn hx1).nlt
        obtain ⟨ar, cr, rfl⟩ := hx1.shape
        refine TC.skip ?_
        refine Thn.go ?_
        refine TC.seq ?_
        refine TC.block ?_
        refine TC.seq ?_
        refine TC.region ?_
        refine TL.assign rfl rfl ?_
        refine TL.done ?_
        refine Thn.go ?_
        refine TC.block ?_
        refine TC.loop1 (fun (j : Nat) => [(12, .slice (some ⟨b1, o1, none⟩) T.length p52), (17, .pointer pa), (19, .slice d78 m.length p78), (21, .int .i64 (i : Int)), (22, .int .i64 (j : Int))]) (fun j w2 => j ≤ r.length ∧ ZR T w2 ∧ Ch (bks T) w105 w2) (fun j => r.length - j) 0 (by repeat (first | exact trivial | refine ⟨rfl, ?_⟩)) (⟨by omega, hz, hch⟩) (fun j w2 hJ => ?_)
        obtain ⟨hj, hz2, hch2⟩ := hJ
        refine TC.seq ?_
        refine TC.seq ?_
        refine TC.region ?_
        refine TL.move rfl rfl ?_
        refine TL.move rfl rfl ?_
        refine TL.move rfl rfl ?_
        refine TL.indexAddr (i) sl22 rfl rfl (by first | rfl | omega) (by omega) rfl ?_
        refine TL.load pl25 rfl (hcell _ hch2) rfl ?_
        refine TL.lenSlice Try.underlying25 rfl rfl ?_
        refine TL.lss rfl rfl rfl ?_
        refine TL.done ?_
        refine Thn.go ?_
        refine TC.condP rfl (fun h10 => ?_) (fun h10 => ?_)
        ·
          have hjl : j < r.length := by omega
          obtain ⟨g, cc, cur, e, hcur, hsz⟩ := hz2 _ hmem (by show 0 < r.length; omega)
          cases e
          refine TC.skip ?_
          refine Thn.go ?_
          refine TC.seq ?_
          refine TC.block ?_
          refine TC.region ?_
          refine TL.move rfl rfl ?_
          refine TL.move rfl rfl ?_
          refine TL.indexAddr (i) sl22 rfl rfl (by first | rfl | omega) (by omega) rfl ?_
          refine TL.load pl25 rfl (hcell _ hch2) rfl ?_
          refine TL.move rfl rfl ?_
          refine TL.buildRec [] [] (cl e0) rfl rfl (by kernel_rfl) rfl ?_
          refine TL.indexAddr (j) sl25 rfl rfl (by first | rfl | omega) (by omega) rfl ?_
          refine TL.store sz32 rfl rfl rfl hcur (by have : r.length * 4 ≤ cur.size := hsz; omega) (by simpa [Value.cells] using cl_one e0) (.inl rfl) (fun ws1 hbs1 hcs1 hzs1 => ?_)
          refine TL.done ?_
          refine Blk.go ?_
          refine Thn.go ?_
          refine TC.region ?_
          refine TL.move rfl rfl ?_
          refine TL.add_i64 rfl rfl (by omega) (by omega) rfl ?_
          refine TL.assign rfl rfl ?_
          refine TL.done ?_
          refine Lp.go (j + 1) (by repeat (first | exact trivial | refine ⟨rfl, ?_⟩)) ?_ (by first | omega | (dsimp only; omega))
          exact ⟨by omega, hz2.store hcur hbs1 (size_spl (by have : r.length * 4 ≤ cur.size := hsz; simp [cl_len, Value.cells]; omega)) hcs1, hch2.trans hcs1 (fun x h _ => h) (fun x h _ => by simp at h; rw [h]; exact bks_in hmem rfl)⟩
        ·
          refine TC.exit ?_
          refine Thn.exit ?_
          refine Lp.exit ?_
          refine Blk.hit ?_
          refine Blk.go ?_
          refine Thn.go ?_
          refine TC.region ?_
          refine TL.move rfl rfl ?_
          refine TL.add_i64 rfl rfl (by omega) (by omega) rfl ?_
          refine TL.assign rfl rfl ?_
          refine TL.done ?_
          refine Lp.go (i + 1) (by repeat (first | exact trivial | refine ⟨rfl, ?_⟩)) ?_ (by first | omega | (dsimp only; omega))
          exact ⟨by omega, hz2, hch2⟩
      ·
        have hch0 : Ch [] w w' := (q71.trans0 k105).thenS hch (fun x hx => by have := (hS0 x hx).1; have := q50.size; omega)
        refine TC.exit ?_
        refine Thn.exit ?_
        refine Lp.exit ?_
        refine Blk.hit ?_
        refine Thn.go ?_
        refine TC.seq ?_
        refine TC.seq ?_
        refine TC.region ?_
        refine TL.move rfl rfl ?_
        refine TL.eqlPtrNil Try.underlying43 rfl rfl rfl ?_
        refine TL.done ?_
        refine Thn.go ?_
        refine TC.condP rfl (fun h11 => ?_) (fun h11 => ?_)
        ·
          refine TC.seq ?_
          refine TC.region ?_
          refine TL.assign rfl rfl ?_
          refine TL.done ?_
          refine Thn.go ?_
          refine TC.ret ?_
          refine Thn.ret ?_
          refine Ends.ret [10] rfl rfl ?_
          exact ⟨rfl, hch0⟩
        ·
          have hz : En.newE D q k = 0 := Decidable.not_not.1 (fun h => by have := hpn h; simp_all)
          obtain ⟨H, cv, rfl, hHge, hHH, hHr, hHb⟩ := hps hz
          have hml : m.length ≤ 16384 := by rw [← hm, (En.new_zero hz).2]; exact Nat.le_trans (List.length_filter_le _ _) (En.liveL_len D q)
          have hH71 := hHH.lt
          have hb52 : w52.heap.size ≤ w64.heap.size := k64.size
          have hHn : H ∉ bks T := fun h => by have := (hS0 H h).2; omega
          have hHH' := (hHH.ch0 k105).ch hch hHn
          have hHr' := (hHr.ch0 k105).ch hch (fun b h1 h2 => by have := (hHb b h1).1; have := (hS0 b h2).2; omega)
          have h78 := ((hv78.ch0 hc83).ch0 hc105).ch hch (fun b h1 h2 => by have := hv78.ge b h1; have := (hS0 b h2).2; have := hc71.size; omega)
          refine TC.skip ?_
          refine Thn.go ?_
          refine TC.seq ?_
          refine TC.seq ?_
          refine TC.region ?_
          refine TL.assign rfl rfl ?_
          refine TL.done ?_
          refine Thn.go ?_
          refine TC.block ?_
          refine TC.loop1 (fun (i : Nat) => [(17, .pointer (some ⟨H, 0, none⟩)), (19, .slice d78 m.length p78), (23, .int .i64 (i : Int))]) (fun i w2 => i ≤ m.length + 2 ∧ (∃ v, Has w2 H #[v, .bool true] 51 (0, 0) ∧ Rd w2 v 4 (m.drop i).length ((m.drop i).flatMap cl) ∧ ∀ b, v.ownBlock = some b → b ≠ H ∧ b < w2.heap.size) ∧ Ch [H] w' w2) (fun i => m.length + 2 - i) 0 (by repeat (first | exact trivial | refine ⟨rfl, ?_⟩)) (⟨by omega, ⟨cv, hHH', hHr', fun b hb => ⟨(hHb b hb).2.1, by have := (hHb b hb).2.2; have := k105.size; have := hch.size; omega⟩⟩, Ch.refl _ _⟩) (fun i w2 hK => ?_)
          obtain ⟨hi2, ⟨v, hvH, hvR, hvb⟩, hch2⟩ := hK
          have hown2 := h78.ch hch2 (fun b h1 h2 => by have := h78.ge b h1; simp at h2; omega)
          refine TC.seq ?_
          refine TC.seq ?_
          refine TC.region ?_
          refine TL.move rfl rfl ?_
          refine TL.move rfl rfl ?_
          refine TL.lenSlice Try.underlying25 rfl rfl ?_
          refine TL.add_i64 rfl rfl (by omega) (by omega) rfl ?_
          refine TL.leq rfl rfl rfl ?_
          refine TL.done ?_
          refine Thn.go ?_
          refine TC.condP rfl (fun h12 => ?_) (fun h12 => ?_)
          ·
            have hil : i ≤ m.length + 1 := by omega
            refine TC.skip ?_
            refine Thn.go ?_
            refine TC.seq ?_
            refine TC.block ?_
            refine TC.seq ?_
            refine TC.region ?_
            refine TL.move rfl rfl ?_
            refine TL.call can23 rfl rfl (fn23 H v (m.drop i) w2 hvH hvR hvb) (fun v141 w141 hr141 => ?_)
            rw [List.drop_drop] at hr141
            obtain ⟨rfl, ⟨v2, hvH2, hvR2, hvb2⟩, hc141⟩ := hr141
            have hdl : (m.drop i).length = m.length - i := List.length_drop
            have hx0 : ¬ 0 < (m.drop i).length → En.rec (m.drop i) 0 = e0 := fun h => by rw [List.eq_nil_of_length_eq_zero (l := m.drop i) (by omega), rec_nil]
            have hx1 : En.rec (m.drop i) 0 = En.rec m i := En.rec_drop
            obtain ⟨x, hx⟩ : ∃ x, En.rec (m.drop i) 0 = x := ⟨_, rfl⟩
            rw [hx] at hx0 hx1 ⊢
            have hown3 := hown2.ch hc141 (fun b h1 h2 => by have := h78.ge b h1; simp at h2; omega)
            refine TL.move rfl rfl ?_
            refine TL.extract rfl rfl rfl ?_
            refine TL.extract rfl rfl rfl ?_
            refine TL.extract rfl rfl rfl ?_
            refine TL.alloc ze32 rfl (fun w24 hb24 hc24 hz24 => ?_)
            refine TL.store sz32 rfl rfl rfl hb24 (by simp [Value.cells]) (by simpa [Value.cells] using cl_one x) (.inl rfl) (fun ws1 hbs1 hcs1 hzs1 => ?_)
            replace hbs1 : Has ws1 w141.heap.size (cl x).toArray 32 (0, 0) := hbs1.setAll rfl
            have q1 : Ch [] w141 ws1 := hc24.then1 hcs1 (Nat.le_refl _)
            refine TL.assign rfl rfl ?_
            refine TL.assign rfl rfl ?_
            refine TL.done ?_
            refine Thn.go ?_
            refine TC.cut0 ([(17, .pointer (some ⟨H, 0, none⟩)), (19, .slice d78 m.length p78), (23, .int .i64 (i : Int)), (174, .bool false)]) (fun w6 => Ch [] ws1 w6) (fun K13 hK13 => ?_) (fun w6 hH24 => ?_)
            ·
              refine TC.regionQ (fun w6 => Ch [] ws1 w6) mixed0 (by kernel_rfl) (Ch.drew [] _) ?_
              refine TQ.via rfl rfl rfl rfl (fun w2 hw2 => TL.move rfl rfl (TL.done ⟨rfl, rfl⟩)) ?_
              refine TQ.via rfl rfl rfl rfl (fun w2 hw2 => TL.neq rfl rfl rfl (TL.done ⟨rfl, rfl⟩)) ?_
              refine TQ.no (by simp) ?_
              refine TQ.via rfl rfl rfl rfl (fun w2 hw2 => TL.move rfl rfl (TL.done ⟨rfl, rfl⟩)) ?_
              refine TQ.guardYes (d := 147) rfl rfl rfl ?_
              refine TQ.via rfl rfl rfl rfl (fun w2 hw2 => TL.move rfl rfl (TL.done ⟨rfl, rfl⟩)) ?_
              refine TQ.guardYes (d := 147) rfl rfl rfl ?_
              refine TQ.via rfl rfl rfl rfl (fun w2 hw2 => TL.move rfl rfl (TL.done ⟨rfl, rfl⟩)) ?_
              refine TQ.guardYes (d := 147) rfl rfl rfl ?_
              refine TQ.via rfl rfl rfl rfl (fun w2 hw2 => TL.move rfl rfl (TL.done ⟨rfl, rfl⟩)) ?_
              refine TQ.guardYes (d := 147) rfl rfl rfl ?_
              refine TQ.via rfl rfl rfl rfl (fun w2 hw2 => TL.lenSlice Try.underlying25 rfl rfl (TL.done ⟨rfl, rfl⟩)) ?_
              refine TQ.guardYes (d := 147) rfl rfl rfl ?_
              refine TQ.via rfl rfl rfl rfl (fun w2 hw2 => TL.lss rfl rfl rfl (TL.done ⟨rfl, rfl⟩)) ?_
              refine TQ.guardYes (d := 147) rfl rfl rfl ?_
              refine TQ.via rfl rfl rfl rfl (fun w2 hw2 => TL.neqBool Try.underlying4 rfl rfl rfl (TL.done ⟨rfl, rfl⟩)) ?_
              refine TQ.no (fun h => h (decide_eq_decide.2 (by omega))) ?_
              refine TQ.via rfl rfl rfl rfl (fun w2 hw2 => TL.pickF rfl rfl rfl rfl (TL.done ⟨rfl, rfl⟩)) ?_
              refine TQ.via rfl rfl rfl rfl (fun w2 hw2 => TL.move rfl rfl (TL.done ⟨rfl, rfl⟩)) ?_
              refine TQ.guardYes (d := 155) rfl rfl rfl ?_
              refine TQ.via rfl rfl rfl rfl (fun w2 hw2 => TL.move rfl rfl (TL.done ⟨rfl, rfl⟩)) ?_
              refine TQ.emB (fun e156 => ?_) (fun e156 => ?_)
              ·
                have him : i < m.length := by have := of_decide_eq_true e156; omega
                obtain ⟨b7, o7, rfl, hce⟩ := recIn (Rd.ofOwn hown3) him
                refine TQ.guardYes (d := 155) rfl rfl rfl ?_
                refine TQ.via rfl rfl rfl rfl (fun w2 hw2 => TL.move rfl rfl (TL.done ⟨rfl, rfl⟩)) ?_
                refine TQ.guardYes (d := 157) rfl rfl rfl ?_
                refine TQ.via rfl rfl rfl rfl (fun w2 hw2 => TL.loadAgg (cl x) ag32 rfl rfl (fun j _ => by rw [(hbs1.ch0 hw2).cell, Nat.zero_add, List.getElem?_toArray]) rfl (TL.done ⟨rfl, rfl⟩)) ?_
                refine TQ.guardYes (d := 157) rfl rfl rfl ?_
                refine TQ.via rfl rfl rfl rfl (fun w2 hw2 => TL.move rfl rfl (TL.done ⟨rfl, rfl⟩)) ?_
                refine TQ.guardYes (d := 157) rfl rfl rfl ?_
                refine TQ.via rfl rfl rfl rfl (fun w2 hw2 => TL.move rfl rfl (TL.done ⟨rfl, rfl⟩)) ?_
                refine TQ.guardYes (d := 157) rfl rfl rfl ?_
                refine TQ.via rfl rfl rfl rfl (fun w2 hw2 => TL.indexAddr (i) sl25 rfl rfl (by first | rfl | omega) (by omega) rfl (TL.done ⟨rfl, rfl⟩)) ?_
                refine TQ.guardYes (d := 157) rfl rfl rfl ?_
                refine TQ.via rfl rfl rfl rfl (fun w2 hw2 => TL.loadAgg (cl x) ag32 rfl rfl (fun j hj => by rw [hx1]; exact hce _ (q1.trans0 hw2) j hj) rfl (TL.done ⟨rfl, rfl⟩)) ?_
                refine TQ.guardYes (d := 157) rfl rfl rfl ?_
                refine TQ.via rfl rfl rfl rfl (fun w2 hw2 => TL.neqAgg gd32 (eqEntry x x _) rfl rfl rfl (TL.done ⟨rfl, rfl⟩)) ?_
                refine TQ.no (by simp) ?_
                refine TQ.guardYes (d := 155) rfl rfl rfl ?_
                refine TQ.via rfl rfl rfl rfl (fun w2 hw2 => TL.pickT rfl rfl rfl rfl (TL.done ⟨rfl, rfl⟩)) ?_
                refine TQ.via rfl rfl rfl rfl (fun w2 hw2 => TL.pickF rfl rfl rfl rfl (TL.done ⟨rfl, rfl⟩)) ?_
                refine TQ.via rfl rfl rfl rfl (fun w2 hw2 => TL.move rfl rfl (TL.done ⟨rfl, rfl⟩)) ?_
                refine TQ.guardYes (d := 166) rfl rfl rfl ?_
                refine TQ.via rfl rfl rfl rfl (fun w2 hw2 => TL.move rfl rfl (TL.done ⟨rfl, rfl⟩)) ?_
                refine TQ.emB (fun e167 => ?_) (fun e167 => ?_)
                ·
                  refine TQ.guardYes (d := 166) rfl rfl rfl ?_
                  refine TQ.via rfl rfl rfl rfl (fun w2 hw2 => TL.not rfl rfl (TL.done ⟨rfl, rfl⟩)) ?_
                  refine TQ.guardYes (d := 166) rfl rfl rfl ?_
                  refine TQ.via rfl rfl rfl rfl (fun w2 hw2 => TL.move rfl rfl (TL.done ⟨rfl, rfl⟩)) ?_
                  refine TQ.guardNo (d := 169) rfl rfl rfl rfl rfl ?_
                  refine TQ.guardNo (d := 169) rfl rfl rfl rfl rfl ?_
                  refine TQ.guardNo (d := 169) rfl rfl rfl rfl rfl ?_
                  refine TQ.guardYes (d := 166) rfl rfl rfl ?_
                  refine TQ.via rfl rfl rfl rfl (fun w2 hw2 => TL.pickF rfl rfl rfl rfl (TL.done ⟨rfl, rfl⟩)) ?_
                  refine TQ.via rfl rfl rfl rfl (fun w2 hw2 => TL.pickF rfl rfl rfl rfl (TL.done ⟨rfl, rfl⟩)) ?_
                  refine TQ.done (fun w2 hw2 => ?_)
                  exact hK13  _ _ (by repeat (first | exact trivial | refine ⟨rfl, ?_⟩ | refine ⟨congrArg (fun b => some (Value.bool b)) (by first | exact (decide_eq_true (by grind)).symm | exact (decide_eq_false (by grind)).symm | exact decide_eq_decide.2 (by grind) | exact decide_eq_true (by grind) | exact decide_eq_false (by grind) | (exfalso; grind)), ?_⟩)) ((by first | exact hc28 | exact hw2))
                ·
                  refine TQ.guardYes (d := 166) rfl rfl rfl ?_
                  refine TQ.via rfl rfl rfl rfl (fun w2 hw2 => TL.not rfl rfl (TL.done ⟨rfl, rfl⟩)) ?_
                  refine TQ.guardYes (d := 166) rfl rfl rfl ?_
                  refine TQ.via rfl rfl rfl rfl (fun w2 hw2 => TL.move rfl rfl (TL.done ⟨rfl, rfl⟩)) ?_
                  refine TQ.guardYes (d := 169) rfl rfl rfl ?_
                  refine TQ.via rfl rfl rfl rfl (fun w2 hw2 => TL.loadAgg (cl x) ag32 rfl rfl (fun j _ => by rw [(hbs1.ch0 hw2).cell, Nat.zero_add, List.getElem?_toArray]) rfl (TL.done ⟨rfl, rfl⟩)) ?_
                  refine TQ.guardYes (d := 169) rfl rfl rfl ?_
                  refine TQ.via rfl rfl rfl rfl (fun w2 hw2 => TL.buildRec [] [] (cl e0) rfl rfl (by kernel_rfl) rfl (TL.done ⟨rfl, rfl⟩)) ?_
                  refine TQ.guardYes (d := 169) rfl rfl rfl ?_
                  refine TQ.via rfl rfl rfl rfl (fun w2 hw2 => TL.neqAgg gd32 (eqEntry x e0 _) rfl rfl rfl (TL.done ⟨rfl, rfl⟩)) ?_
                  refine TQ.no (fun h => h (hx0 (of_decide_eq_false e167))) ?_
                  refine TQ.guardYes (d := 166) rfl rfl rfl ?_
                  refine TQ.via rfl rfl rfl rfl (fun w2 hw2 => TL.pickT rfl rfl rfl rfl (TL.done ⟨rfl, rfl⟩)) ?_
                  refine TQ.via rfl rfl rfl rfl (fun w2 hw2 => TL.pickF rfl rfl rfl rfl (TL.done ⟨rfl, rfl⟩)) ?_
                  refine TQ.done (fun w2 hw2 => ?_)
                  exact hK13  _ _ (by repeat (first | exact trivial | refine ⟨rfl, ?_⟩ | refine ⟨congrArg (fun b => some (Value.bool b)) (by first | exact (decide_eq_true (by grind)).symm | exact (decide_eq_false (by grind)).symm | exact decide_eq_decide.2 (by grind) | exact decide_eq_true (by grind) | exact decide_eq_false (by grind) | (exfalso; grind)), ?_⟩)) ((by first | exact hc28 | exact hw2))
              ·
                refine TQ.guardYes (d := 155) rfl rfl rfl ?_
                refine TQ.via rfl rfl rfl rfl (fun w2 hw2 => TL.move rfl rfl (TL.done ⟨rfl, rfl⟩)) ?_
                refine TQ.guardNo (d := 157) rfl rfl rfl rfl rfl ?_
                refine TQ.guardNo (d := 157) rfl rfl rfl rfl rfl ?_
                refine TQ.guardNo (d := 157) rfl rfl rfl rfl rfl ?_
                refine TQ.guardNo (d := 157) rfl rfl rfl rfl rfl ?_
                refine TQ.guardNo (d := 157) rfl rfl rfl rfl rfl ?_
                refine TQ.guardNo (d := 157) rfl rfl rfl rfl rfl ?_
                refine TQ.guardYes (d := 155) rfl rfl rfl ?_
                refine TQ.via rfl rfl rfl rfl (fun w2 hw2 => TL.pickF rfl rfl rfl rfl (TL.done ⟨rfl, rfl⟩)) ?_
                refine TQ.via rfl rfl rfl rfl (fun w2 hw2 => TL.pickF rfl rfl rfl rfl (TL.done ⟨rfl, rfl⟩)) ?_
                refine TQ.via rfl rfl rfl rfl (fun w2 hw2 => TL.move rfl rfl (TL.done ⟨rfl, rfl⟩)) ?_
                refine TQ.guardYes (d := 166) rfl rfl rfl ?_
                refine TQ.via rfl rfl rfl rfl (fun w2 hw2 => TL.move rfl rfl (TL.done ⟨rfl, rfl⟩)) ?_
                refine TQ.emB (fun e167 => ?_) (fun e167 => ?_)
                ·
                  refine TQ.guardYes (d := 166) rfl rfl rfl ?_
                  refine TQ.via rfl rfl rfl rfl (fun w2 hw2 => TL.not rfl rfl (TL.done ⟨rfl, rfl⟩)) ?_
                  refine TQ.guardYes (d := 166) rfl rfl rfl ?_
                  refine TQ.via rfl rfl rfl rfl (fun w2 hw2 => TL.move rfl rfl (TL.done ⟨rfl, rfl⟩)) ?_
                  refine TQ.guardNo (d := 169) rfl rfl rfl rfl rfl ?_
                  refine TQ.guardNo (d := 169) rfl rfl rfl rfl rfl ?_
                  refine TQ.guardNo (d := 169) rfl rfl rfl rfl rfl ?_
                  refine TQ.guardYes (d := 166) rfl rfl rfl ?_
                  refine TQ.via rfl rfl rfl rfl (fun w2 hw2 => TL.pickF rfl rfl rfl rfl (TL.done ⟨rfl, rfl⟩)) ?_
                  refine TQ.via rfl rfl rfl rfl (fun w2 hw2 => TL.pickF rfl rfl rfl rfl (TL.done ⟨rfl, rfl⟩)) ?_
                  refine TQ.done (fun w2 hw2 => ?_)
                  exact hK13  _ _ (by repeat (first | exact trivial | refine ⟨rfl, ?_⟩ | refine ⟨congrArg (fun b => some (Value.bool b)) (by first | exact (decide_eq_true (by grind)).symm | exact (decide_eq_false (by grind)).symm | exact decide_eq_decide.2 (by grind) | exact decide_eq_true (by grind) | exact decide_eq_false (by grind) | (exfalso; grind)), ?_⟩)) ((by first | exact hc28 | exact hw2))
                ·
                  refine TQ.guardYes (d := 166) rfl rfl rfl ?_
                  refine TQ.via rfl rfl rfl rfl (fun w2 hw2 => TL.not rfl rfl (TL.done ⟨rfl, rfl⟩)) ?_
                  refine TQ.guardYes (d := 166) rfl rfl rfl ?_
                  refine TQ.via rfl rfl rfl rfl (fun w2 hw2 => TL.move rfl rfl (TL.done ⟨rfl, rfl⟩)) ?_
                  refine TQ.guardYes (d := 169) rfl rfl rfl ?_
                  refine TQ.via rfl rfl rfl rfl (fun w2 hw2 => TL.loadAgg (cl x) ag32 rfl rfl (fun j _ => by rw [(hbs1.ch0 hw2).cell, Nat.zero_add, List.getElem?_toArray]) rfl (TL.done ⟨rfl, rfl⟩)) ?_
                  refine TQ.guardYes (d := 169) rfl rfl rfl ?_
                  refine TQ.via rfl rfl rfl rfl (fun w2 hw2 => TL.buildRec [] [] (cl e0) rfl rfl (by kernel_rfl) rfl (TL.done ⟨rfl, rfl⟩)) ?_
                  refine TQ.guardYes (d := 169) rfl rfl rfl ?_
                  refine TQ.via rfl rfl rfl rfl (fun w2 hw2 => TL.neqAgg gd32 (eqEntry x e0 _) rfl rfl rfl (TL.done ⟨rfl, rfl⟩)) ?_
                  refine TQ.no (fun h => h (hx0 (of_decide_eq_false e167))) ?_
                  refine TQ.guardYes (d := 166) rfl rfl rfl ?_
                  refine TQ.via rfl rfl rfl rfl (fun w2 hw2 => TL.pickT rfl rfl rfl rfl (TL.done ⟨rfl, rfl⟩)) ?_
                  refine TQ.via rfl rfl rfl rfl (fun w2 hw2 => TL.pickF rfl rfl rfl rfl (TL.done ⟨rfl, rfl⟩)) ?_
                  refine TQ.done (fun w2 hw2 => ?_)
                  exact hK13  _ _ (by repeat (first | exact trivial | refine ⟨rfl, ?_⟩ | refine ⟨congrArg (fun b => some (Value.bool b)) (by first | exact (decide_eq_true (by grind)).symm | exact (decide_eq_false (by grind)).symm | exact decide_eq_decide.2 (by grind) | exact decide_eq_true (by grind) | exact decide_eq_false (by grind) | (exfalso; grind)), ?_⟩)) ((by first | exact hc28 | exact hw2))
            ·
              refine TC.condF rfl rfl ?_
              refine TC.skip ?_
              refine Blk.go ?_
              refine Thn.go ?_
              refine TC.region ?_
              refine TL.move rfl rfl ?_
              refine TL.add_i64 rfl rfl (by omega) (by omega) rfl ?_
              refine TL.assign rfl rfl ?_
              refine TL.done ?_
              refine Lp.go (i + 1) (by repeat (first | exact trivial | refine ⟨rfl, ?_⟩)) ?_ (by first | omega | (dsimp only; omega))
              have q2 := q1.trans0 hH24
              exact ⟨by omega, ⟨v2, hvH2.ch0 q2, hvR2.ch0 q2, fun b hb => ⟨(hvb2 b hb).1, by have := (hvb2 b hb).2; have := hc141.size; have := q2.size; omega⟩⟩, (hch2.trans hc141 (fun x h _ => h) (fun x h _ => h)).trans q2 (fun x h _ => h) (by simp)⟩
          ·
            refine TC.exit ?_
            refine Thn.exit ?_
            refine Lp.exit ?_
            refine Blk.hit ?_
            refine Thn.go ?_
            refine TC.seq ?_
            refine TC.region ?_
            refine TL.assign rfl rfl ?_
            refine TL.done ?_
            refine Thn.go ?_
            refine TC.ret ?_
            refine Ends.ret [10] rfl rfl ?_
            exact ⟨rfl, hch0.thenS hch2 (fun x h => by simp at h; have := q71.size; have := k64.size; have := q52.size; omega)⟩

