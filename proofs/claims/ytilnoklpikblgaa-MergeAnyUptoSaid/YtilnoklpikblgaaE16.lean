/-
  Walks through the given program: each theorem fnN says what the call of function N of the translation hands back, for all arguments that its premises describe, and that nothing that was there has turned.
-/
import Derived.Test.YtilnoklpikblgaaE15
namespace Go.Proofs.Ytilnoklpikblgaa
open Go.Lane
theorem can18 : Callable Try.prog 18 := ⟨Try.f18, Try.func18, by kernel_rfl, rfl⟩

theorem fn26 (av : Value) (Ls : List Row) (q : Int) (k : List UInt8) (w : World) (ha : Rd w av 1 Ls.length (vals Ls)) (hr : ∀ p ∈ Ls, Rd w p.1 4 p.2.length (p.2.flatMap cl)) (hsum : (Ls.map (·.2)).flatten.length ≤ 1000000) : Rets Try.prog 26 #[av, .int .i64 q, str k] w (fun r w' => ∃ o, r = .tuple #[o, .int .i64 (En.newE (Ls.map (·.2)) q k : Int)] ∧ Own w' w.heap.size 32 4 o (En.newL (Ls.map (·.2)) q k).length ((En.newL (Ls.map (·.2)) q k).flatMap cl) ∧ Ch [] w w') := by
  have hmm : maxLen = 9223372036854775807 := rfl
  refine Rets.of (n := 45) (vs := [_, _, _]) Try.func26 rfl rfl rfl ?_
  refine TC.seq ?_
  refine TC.region ?_
  refine TL.assign rfl rfl ?_
  refine TL.assign rfl rfl ?_
  refine TL.done ?_
  refine Thn.go ?_
  refine TC.seq ?_
  refine TC.region ?_
  refine TL.move rfl rfl ?_
  refine TL.move rfl rfl ?_
  refine TL.call can18 rfl rfl (fn18 av Ls q w ha hr hsum) (fun v15 w15 hr15 => ?_)
  obtain ⟨o15, rfl, hv15, hc15⟩ := hr15
  refine TL.move rfl rfl ?_
  refine TL.extract rfl rfl rfl ?_
  refine TL.extract rfl rfl rfl ?_
  refine TL.assign rfl rfl ?_
  refine TL.assign rfl rfl ?_
  refine TL.done ?_
  refine Thn.go ?_
  refine TC.seq ?_
  refine TC.seq ?_
  refine TC.region ?_
  refine TL.move rfl rfl ?_
  refine TL.neq rfl rfl rfl ?_
  refine TL.done ?_
  refine Thn.go ?_
  refine TC.condP rfl (fun h1 => ?_) (fun h1 => ?_)
  ·
    obtain ⟨e1, e2⟩ := En.new_live (D := Ls.map (·.2)) (q := q) (k := k) (by omega)
    refine TC.seq ?_
    refine TC.region ?_
    refine TL.move rfl rfl ?_
    refine TL.assign rfl rfl ?_
    refine TL.assign rfl rfl ?_
    refine TL.done ?_
    refine Thn.go ?_
    refine TC.ret ?_
    refine Thn.ret ?_
    refine Ends.ret [6, 7] rfl rfl ?_
    exact ⟨_, by rw [e1]; rfl, by rw [e2]; exact World.ownsRow_nil _ _ _ _, hc15⟩
  ·
    have hz : En.liveE (Ls.map (·.2)) q = 0 := by omega
    refine TC.skip ?_
    refine Thn.go ?_
    refine TC.seq ?_
    refine TC.seq ?_
    refine TC.region ?_
    refine TL.move rfl rfl ?_
    refine TL.lenStr Try.underlying9 rfl rfl ?_
    refine TL.gtr rfl rfl rfl ?_
    refine TL.done ?_
    refine Thn.go ?_
    refine TC.condP rfl (fun h2 => ?_) (fun h2 => ?_)
    ·
      obtain ⟨e1, e2⟩ := En.new_text (k := k) hz (by omega)
      refine TC.seq ?_
      refine TC.region ?_
      refine TL.assign rfl rfl ?_
      refine TL.assign rfl rfl ?_
      refine TL.done ?_
      refine Thn.go ?_
      refine TC.ret ?_
      refine Thn.ret ?_
      refine Ends.ret [6, 7] rfl rfl ?_
      exact ⟨_, by rw [e1]; rfl, by rw [e2]; exact World.ownsRow_nil _ _ _ _, hc15⟩
    ·
      obtain ⟨e1, e2⟩ := En.new_ok (k := k) hz (by omega)
      have hll := En.liveL_len (Ls.map (·.2)) q
      rw [e1, e2]
      obtain ⟨l, hl0⟩ : ∃ l, En.liveL (Ls.map (·.2)) q = l := ⟨_, rfl⟩
      rw [hl0] at hv15 hll ⊢
      obtain ⟨ad, c, rfl⟩ := hv15.shape
      refine TC.skip ?_
      refine Thn.go ?_
      refine TC.seq ?_
      refine TC.region ?_
      refine TL.assign rfl rfl ?_
      refine TL.done ?_
      refine Thn.go ?_
      refine TC.seq ?_
      refine TC.seq ?_
      refine TC.region ?_
      refine TL.assign rfl rfl ?_
      refine TL.done ?_
      refine Thn.go ?_
      refine TC.block ?_
      refine TC.loop2 (fun (i : Nat) (ov : Value) => [(2, str k), (8, .slice ad l.length c), (10, ov), (11, .int .i64 (i : Int))]) (fun i ov w' => i ≤ l.length ∧ Own w' w15.heap.size 32 4 ov ((l.take i).filter (En.ge k)).length (((l.take i).filter (En.ge k)).flatMap cl) ∧ Ch [] w15 w') (fun i _ => l.length - i) 0 (.slice none 0 0) (by repeat (first | exact trivial | refine ⟨rfl, ?_⟩)) (⟨by omega, World.ownsRow_nil _ _ _ _, Ch.refl _ _⟩) (fun i ov w' hH => ?_)
      obtain ⟨hi, hown, hch⟩ := hH
      have hfl := En.filt_len l (En.ge k) i
      refine TC.seq ?_
      refine TC.seq ?_
      refine TC.region ?_
      refine TL.move rfl rfl ?_
      refine TL.move rfl rfl ?_
      refine TL.lenSlice Try.underlying25 rfl rfl ?_
      refine TL.lss rfl rfl rfl ?_
      refine TL.done ?_
      refine Thn.go ?_
      refine TC.condP rfl (fun h3 => ?_) (fun h3 => ?_)
      ·
        have hil : i < l.length := by omega
        obtain ⟨b1, o1, rfl, hce⟩ := recIn (Rd.ofOwn hv15) hil
        have hge : En.ge k (En.rec l i) = !Op.bytesLess (En.rec l i).key k := rfl
        refine TC.skip ?_
        refine Thn.go ?_
        refine TC.seq ?_
        refine TC.block ?_
        refine TC.regionBool (d := 36) (p := (En.ge k (En.rec l i) = true)) (fun K4 hK4 => ?_) ?_
        ·
          refine TL.move rfl rfl ?_
          refine TL.move rfl rfl ?_
          refine TL.indexAddr (i) sl25 rfl rfl (by first | rfl | omega) (by omega) rfl ?_
          refine TL.fieldAddr fd32k0 rfl rfl ?_
          refine TL.load pl9 rfl ((show _ = some (str (En.rec l i).key) from hce _ hch 0 (by decide))) rfl ?_
          refine TL.move rfl rfl ?_
          refine TL.geqStr rfl rfl rfl ?_
          refine TL.done ?_
          refine hK4 _ ?_
          refine Le.here rfl (by rw [Bool.eq_iff_iff, decide_eq_true_iff, hge]) ?_
          repeat (first | exact Le.refl _ | refine Le.skip rfl ?_)
        refine TC.condP rfl (fun h5 => ?_) (fun h5 => ?_)
        ·
          have hgy : En.ge k (En.rec l i) = true := by assumption
          refine TC.region ?_
          refine TL.move rfl rfl ?_
          refine TL.move rfl rfl ?_
          refine TL.move rfl rfl ?_
          refine TL.indexAddr (i) sl25 rfl rfl (by first | rfl | omega) (by omega) rfl ?_
          refine TL.loadAgg (cl (En.rec l i)) ag32 rfl rfl (fun j hj => hce _ hch j hj) rfl ?_
          refine TL.buildSlice [.tmp 41] sl25 rfl rfl rfl (by decide) (by first | simp [Value.cells]; done | simp [Value.cells, cl_len]; done) rfl (fun w42 hb42 hc42 hz42 => ?_)
          refine TL.append sl25 rfl rfl rfl (hown.ch0 hc42) (News.ofRd Try.underlying25 (recOne hb42) (rows_one _)) (by omega) (by omega) (by have := (hch.trans0 hc42).size; omega) (fun v43 w43 hv43 hc43 _ => ?_)
          refine TL.assign rfl rfl ?_
          refine TL.done ?_
          refine Blk.go ?_
          refine Thn.go ?_
          refine TC.region ?_
          refine TL.move rfl rfl ?_
          refine TL.add_i64 rfl rfl (by omega) (by omega) rfl ?_
          refine TL.assign rfl rfl ?_
          refine TL.done ?_
          refine Lp.go ((i + 1, v43)) (by repeat (first | exact trivial | refine ⟨rfl, ?_⟩)) ?_ (by first | omega | (dsimp only; omega))
          refine ⟨by show i + 1 ≤ l.length; omega, ?_, (hown.ch0 hc42).thenCh' (hch.trans0 hc42) hc43 (Nat.le_refl _)⟩
          show Own w43 w15.heap.size 32 4 v43 ((l.take (i + 1)).filter _).length _
          rw [En.gefilt_yes hil hgy, List.length_append, List.flatMap_append]; exact hv43
        ·
          have hgn : En.ge k (En.rec l i) = false := Bool.not_eq_true _ |>.mp (by assumption)
          refine TC.skip ?_
          refine Blk.go ?_
          refine Thn.go ?_
          refine TC.region ?_
          refine TL.move rfl rfl ?_
          refine TL.add_i64 rfl rfl (by omega) (by omega) rfl ?_
          refine TL.assign rfl rfl ?_
          refine TL.done ?_
          refine Lp.go ((i + 1, ov)) (by repeat (first | exact trivial | refine ⟨rfl, ?_⟩)) ?_ (by first | omega | (dsimp only; omega))
          exact ⟨by show i + 1 ≤ l.length; omega, by show Own w' w15.heap.size 32 4 ov ((l.take (i + 1)).filter _).length _; rw [En.gefilt_no hil hgn]; exact hown, hch⟩
      ·
        have hil : i = l.length := by omega
        subst hil
        rw [List.take_length] at hown
        refine TC.exit ?_
        refine Thn.exit ?_
        refine Lp.exit ?_
        refine Blk.hit ?_
        refine Thn.go ?_
        refine TC.seq ?_
        refine TC.region ?_
        refine TL.move rfl rfl ?_
        refine TL.assign rfl rfl ?_
        refine TL.assign rfl rfl ?_
        refine TL.done ?_
        refine Thn.go ?_
        refine TC.ret ?_
        refine Ends.ret [6, 7] rfl rfl ?_
        exact ⟨_, rfl, hown.base hc15.size, hc15.trans0 hch⟩

