/-
  Walks through the given program: each theorem fnN says what the call of function N of the translation hands back, for all arguments that its premises describe, and that nothing that was there has turned.
-/
import Derived.Test.YtilnoklpikblgaaE16
namespace Go.Proofs.Ytilnoklpikblgaa
open Go.Lane
theorem can11 : Callable Try.prog 11 := ⟨Try.f11, Try.func11, by kernel_rfl, rfl⟩
theorem can15 : Callable Try.prog 15 := ⟨Try.f15, Try.func15, by kernel_rfl, rfl⟩
theorem can20 : Callable Try.prog 20 := ⟨Try.f20, Try.func20, by kernel_rfl, rfl⟩
/-- A new row's block is none of an old one's. -/
theorem Own.older {wA wB : World} {bA bB s1 s2 n1 n2 : Nat} {e1 e2 : TypeId} {v1 v2 : Value} {c1 c2 : List Value} (h1 : Own wA bA e1 s1 v1 n1 c1) (hs : wA.heap.size ≤ bB) (h2 : Own wB bB e2 s2 v2 n2 c2) : ∀ k, v1.ownBlock = some k → k ∉ blk v2 := fun k hk hm => by
  have := h1.lt k hk
  have := h2.ge k (by simpa [blk] using hm)
  omega
theorem heavy_no {D : List (List En.Entry)} (h : ¬ En.heavyP D) : D.length ≤ 100 ∧ D.flatten.length ≤ 6000 := by
  unfold En.heavyP at h
  have h1 : ¬ 100 < D.length := fun h2 => h (.inr (.inl h2))
  have h3 : ¬ 6000 < D.flatten.length := fun h2 => h (.inr (.inr h2))
  omega

theorem fn4 (av : Value) (Ls : List Row) (q : Int) (w : World) (ha : Rd w av 1 Ls.length (vals Ls)) (hr : ∀ p ∈ Ls, Rd w p.1 4 p.2.length (p.2.flatMap cl)) (hsum : (Ls.map (·.2)).flatten.length ≤ 2000000) : Rets Try.prog 4 #[av, .int .i64 q] w (fun r w' => r = .bool true ∧ Ch [] w w') := by
  obtain ⟨ad, c, rfl, _⟩ := ha.shape
  have hmm : maxLen = 9223372036854775807 := rfl
  refine Rets.of (n := 74) (vs := [_, _]) Try.func4 rfl rfl rfl ?_
  refine TC.seq ?_
  refine TC.region ?_
  refine TL.assign rfl rfl ?_
  refine TL.done ?_
  refine Thn.go ?_
  refine TC.seq ?_
  refine TC.seq ?_
  refine TC.region ?_
  refine TL.move rfl rfl ?_
  refine TL.call can11 rfl rfl (fn11 _ Ls w ha hr hsum) (fun v16 w16 hr16 => ?_)
  obtain ⟨rfl, hc16⟩ := hr16
  refine TL.done ?_
  refine Thn.go ?_
  refine TC.condP rfl (fun h1 => ?_) (fun h1 => ?_)
  ·
    refine TC.seq ?_
    refine TC.region ?_
    refine TL.assign rfl rfl ?_
    refine TL.done ?_
    refine Thn.go ?_
    refine TC.ret ?_
    refine Thn.ret ?_
    refine Ends.ret [4] rfl rfl ?_
    exact ⟨rfl, hc16⟩
  ·
    obtain ⟨hn100, hn6⟩ := heavy_no (by assumption)
    rw [List.length_map] at hn100
    refine TC.skip ?_
    refine Thn.go ?_
    refine TC.seq ?_
    refine TC.region ?_
    refine TL.move rfl rfl ?_
    refine TL.call can15 rfl rfl (fn15 _ Ls w16 (ha.ch0 hc16) (fun p hp => (hr p hp).ch0 hc16) hsum (by omega)) (fun v18 w18 hr18 => ?_)
    obtain ⟨T, hT, hv18, hrw, hap, hpw, hc18⟩ := hr18
    have q18 := hc16.trans0 hc18
    obtain ⟨D, hD⟩ : ∃ D, Ls.map (·.2) = D := ⟨_, rfl⟩
    rw [hD] at hn6
    have hTD := hT.trans hD
    obtain ⟨d18, p18, rfl⟩ := hv18.shape
    refine TL.assign rfl rfl ?_
    refine TL.done ?_
    refine Thn.go ?_
    refine TC.seq ?_
    refine TC.region ?_
    refine TL.move rfl rfl ?_
    refine TL.call can12 rfl rfl (fn12 _ T w18 (Rd.ofOwn hv18) (fun p hp => Rd.ofOwn (hrw p hp)) (by rw [hTD]; omega)) (fun v21 w21 hr21 => ?_)
    rw [hTD] at hr21
    obtain ⟨o21, rfl, hv21, hc21⟩ := hr21
    refine TL.move rfl rfl ?_
    refine TL.extract rfl rfl rfl ?_
    refine TL.extract rfl rfl rfl ?_
    refine TL.assign rfl rfl ?_
    refine TL.assign rfl rfl ?_
    refine TL.done ?_
    refine Thn.go ?_
    refine TC.seq ?_
    refine TC.region ?_
    refine TL.move rfl rfl ?_
    refine TL.call can16 rfl rfl (fn16 _ Ls w21 ((ha.ch0 q18).ch0 hc21) (fun p hp => ((hr p hp).ch0 q18).ch0 hc21) (by rw [hD]; omega)) (fun v26 w26 hr26 => ?_)
    rw [hD] at hr26
    obtain ⟨o26, rfl, hv26, hc26⟩ := hr26
    have k26 := hc21.trans0 hc26
    refine TL.move rfl rfl ?_
    refine TL.extract rfl rfl rfl ?_
    refine TL.extract rfl rfl rfl ?_
    refine TL.assign rfl rfl ?_
    refine TL.assign rfl rfl ?_
    refine TL.done ?_
    refine Thn.go ?_
    refine TC.seq ?_
    refine TC.region ?_
    refine TL.move rfl rfl ?_
    refine TL.move rfl rfl ?_
    refine TL.call can17 rfl rfl (fn17 _ T q w26 (Rd.ofOwn (hv18.ch0 k26)) (fun p hp => Rd.ofOwn ((hrw p hp).ch0 k26)) (by rw [hTD]; omega)) (fun v32 w32 hr32 => ?_)
    rw [hTD] at hr32
    obtain ⟨o32, rfl, hv32, hc32⟩ := hr32
    have k32 := k26.trans0 hc32
    refine TL.move rfl rfl ?_
    refine TL.extract rfl rfl rfl ?_
    refine TL.extract rfl rfl rfl ?_
    refine TL.assign rfl rfl ?_
    refine TL.assign rfl rfl ?_
    refine TL.done ?_
    refine Thn.go ?_
    refine TC.seq ?_
    refine TC.region ?_
    refine TL.move rfl rfl ?_
    refine TL.move rfl rfl ?_
    refine TL.call can18 rfl rfl (fn18 _ Ls q w32 ((ha.ch0 q18).ch0 k32) (fun p hp => ((hr p hp).ch0 q18).ch0 k32) (by rw [hD]; omega)) (fun v38 w38 hr38 => ?_)
    rw [hD] at hr38
    obtain ⟨o38, rfl, hv38, hc38⟩ := hr38
    obtain ⟨d21, p21, rfl⟩ := hv21.shape
    refine TL.move rfl rfl ?_
    refine TL.extract rfl rfl rfl ?_
    refine TL.extract rfl rfl rfl ?_
    refine TL.assign rfl rfl ?_
    refine TL.assign rfl rfl ?_
    refine TL.done ?_
    refine Thn.go ?_
    refine TC.seq ?_
    refine TC.seq ?_
    refine TC.region ?_
    refine TL.move rfl rfl ?_
    refine TL.move rfl rfl ?_
    refine TL.call can19 rfl rfl (fn19 _ _ (En.allL D) (En.allL D) w38 (Rd.ofOwn (((hv21.ch0 hc26).ch0 hc32).ch0 hc38)) (Rd.ofOwn ((hv26.ch0 hc32).ch0 hc38))) (fun v43 w43 hr43 => ?_)
    obtain ⟨rfl, hc43⟩ := hr43
    refine TL.yes (rfl) ?_
    refine TL.not rfl rfl ?_
    refine TL.move rfl rfl ?_
    refine TL.guardYes (d := 45) rfl rfl rfl ?_
    refine TL.move rfl rfl ?_
    refine TL.guardYes (d := 45) rfl rfl rfl ?_
    refine TL.move rfl rfl ?_
    refine TL.guardYes (d := 45) rfl rfl rfl ?_
    refine TL.neq rfl rfl rfl ?_
    refine TL.no (by simp) ?_
    refine TL.pickF rfl rfl rfl rfl ?_
    refine TL.move rfl rfl ?_
    refine TL.guardYes (d := 50) rfl rfl rfl ?_
    refine TL.move rfl rfl ?_
    refine TL.guardYes (d := 50) rfl rfl rfl ?_
    refine TL.move rfl rfl ?_
    refine TL.guardYes (d := 50) rfl rfl rfl ?_
    refine TL.call can19 rfl rfl (fn19 _ _ (En.liveL D q) (En.liveL D q) w43 (Rd.ofOwn ((hv32.ch0 hc38).ch0 hc43)) (Rd.ofOwn (hv38.ch0 hc43))) (fun v53 w53 hr53 => ?_)
    obtain ⟨rfl, hc53⟩ := hr53
    have k53 : Ch [] w21 w53 := hc26.trans0 (hc32.trans0 (hc38.trans0 (hc43.trans0 hc53)))
    have h21 := hv21.ch0 k53
    refine TL.yes (rfl) ?_
    refine TL.guardYes (d := 50) rfl rfl rfl ?_
    refine TL.not rfl rfl ?_
    refine TL.pickF rfl rfl rfl rfl ?_
    refine TL.move rfl rfl ?_
    refine TL.guardYes (d := 56) rfl rfl rfl ?_
    refine TL.move rfl rfl ?_
    refine TL.guardYes (d := 56) rfl rfl rfl ?_
    refine TL.move rfl rfl ?_
    refine TL.guardYes (d := 56) rfl rfl rfl ?_
    refine TL.neq rfl rfl rfl ?_
    refine TL.no (by simp) ?_
    refine TL.pickF rfl rfl rfl rfl ?_
    refine TL.done ?_
    refine Thn.go ?_
    refine TC.condF rfl rfl ?_
    refine TC.skip ?_
    refine Thn.go ?_
    refine TC.seq ?_
    refine TC.seq ?_
    refine TC.region ?_
    refine TL.assign rfl rfl ?_
    refine TL.done ?_
    refine Thn.go ?_
    refine TC.block ?_
    refine TC.loop1 (fun (i : Nat) => [(0, .slice ad Ls.length c), (5, .slice d18 T.length p18), (6, .slice d21 (En.allL D).length p21), (14, .int .i64 (i : Int))]) (fun i w' => i ≤ (En.allL D).length ∧ (0 < (En.allL D).length → ∃ g cur, d21 = some ⟨g, 0, none⟩ ∧ Has w' g cur 32 (0, 0) ∧ (En.allL D).length * 4 ≤ cur.size) ∧ Ch (blk (.slice d21 (En.allL D).length p21)) w53 w') (fun i => (En.allL D).length - i) 0 (by repeat (first | exact trivial | refine ⟨rfl, ?_⟩)) (⟨by omega, fun h0 => by obtain ⟨g, c', e⟩ := h21.form h0; cases e; obtain ⟨cur, hcur, hcsz, hcn, _⟩ := h21.has; exact ⟨g, cur, rfl, hcur, by omega⟩, Ch.refl _ _⟩) (fun i w' hH => ?_)
    obtain ⟨hi, hg, hch⟩ := hH
    have hnl := (Rd.ofOwn h21).nlt
    refine TC.seq ?_
    refine TC.seq ?_
    refine TC.region ?_
    refine TL.move rfl rfl ?_
    refine TL.move rfl rfl ?_
    refine TL.lenSlice Try.underlying25 rfl rfl ?_
    refine TL.lss rfl rfl rfl ?_
    refine TL.done ?_
    refine Thn.go ?_
    refine TC.condP rfl (fun h3 => ?_) (fun h3 => ?_)
    ·
      have hil : i < (En.allL D).length := by omega
      obtain ⟨g, cur, rfl, hcur, hsz⟩ := hg (by omega)
      refine TC.skip ?_
      refine Thn.go ?_
      refine TC.seq ?_
      refine TC.block ?_
      refine TC.region ?_
      refine TL.move rfl rfl ?_
      refine TL.move rfl rfl ?_
      refine TL.buildRec [] [] (cl e0) rfl rfl (by kernel_rfl) rfl ?_
      refine TL.indexAddr (i) sl25 rfl rfl (by first | rfl | omega) (by omega) rfl ?_
      refine TL.store sz32 rfl rfl rfl hcur (by omega) (by simpa [Value.cells] using cl_one e0) (.inl rfl) (fun ws1 hbs1 hcs1 hzs1 => ?_)
      refine TL.done ?_
      refine Blk.go ?_
      refine Thn.go ?_
      refine TC.region ?_
      refine TL.move rfl rfl ?_
      refine TL.add_i64 rfl rfl (by omega) (by omega) rfl ?_
      refine TL.assign rfl rfl ?_
      refine TL.done ?_
      refine Lp.go (i + 1) (by repeat (first | exact trivial | refine ⟨rfl, ?_⟩)) ?_ (by first | omega | (dsimp only; omega))
      exact ⟨by omega, fun _ => ⟨g, _, rfl, hbs1, by rw [size_spl (by simp [cl_len, Value.cells]; omega)]; exact hsz⟩, hch.trans hcs1 (fun x h _ => h) (fun x h _ => by simpa [blk, Value.ownBlock] using h)⟩
    ·
      have k18 := hc21.trans0 k53
      refine TC.exit ?_
      refine Thn.exit ?_
      refine Lp.exit ?_
      refine Blk.hit ?_
      refine Thn.go ?_
      refine TC.seq ?_
      refine TC.region ?_
      refine TL.move rfl rfl ?_
      refine TL.move rfl rfl ?_
      refine TL.call can20 rfl rfl (fn20 _ _ T Ls hT w' (Rd.ofOwn ((hv18.ch0 k18).ch hch (Own.older hv18 (Nat.le_refl _) hv21))) (ha.ch0 ((q18.trans0 k18).thenS hch (fun x hx => by have := hv21.ge x (by simpa [blk] using hx); have := q18.size; omega))) (fun p hp => Rd.ofOwn (((hrw p hp).ch0 k18).ch hch (Own.older (hrw p hp) (Nat.le_refl _) hv21))) (fun p hp => (hr p hp).ch0 ((q18.trans0 k18).thenS hch (fun x hx => by have := hv21.ge x (by simpa [blk] using hx); have := q18.size; omega)))) (fun v73 w73 hr73 => ?_)
      obtain ⟨rfl, hc73⟩ := hr73
      refine TL.assign rfl rfl ?_
      refine TL.done ?_
      refine Thn.go ?_
      refine TC.ret ?_
      refine Ends.ret [4] rfl rfl ?_
      exact ⟨rfl, ((q18.trans0 k18).thenS hch (fun x hx => by have := hv21.ge x (by simpa [blk] using hx); have := q18.size; omega)).trans0 hc73⟩

