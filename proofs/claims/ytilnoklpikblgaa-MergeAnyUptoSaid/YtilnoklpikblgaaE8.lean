/-
  Walks through the given program: each theorem fnN says what the call of function N of the translation hands back, for all arguments that its premises describe, and that nothing that was there has turned.
-/
import Derived.Test.YtilnoklpikblgaaE7
namespace Go.Proofs.Ytilnoklpikblgaa
open Go.Lane
theorem can12 : Callable Try.prog 12 := ⟨Try.f12, Try.func12, by kernel_rfl, rfl⟩
theorem can16 : Callable Try.prog 16 := ⟨Try.f16, Try.func16, by kernel_rfl, rfl⟩
theorem can37 : Callable Try.prog 37 := ⟨Try.f37, Try.func37, by kernel_rfl, rfl⟩
theorem can38 : Callable Try.prog 38 := ⟨Try.f38, Try.func38, by kernel_rfl, rfl⟩
theorem can39 : Callable Try.prog 39 := ⟨Try.f39, Try.func39, by kernel_rfl, rfl⟩
theorem can41 : Callable Try.prog 41 := ⟨Try.f41, Try.func41, by kernel_rfl, rfl⟩
theorem marksIn {w : World} {b : Nat} {g : Value} {l : List En.Entry} {q : Int} (h : Own w b 4 1 g l.length (marks l q l.length)) (h0 : 0 < l.length) : ∃ b' c, g = .slice (some ⟨b', 0, none⟩) l.length c ∧ ∀ i, i < l.length → ∀ w2, Ch [] w w2 → w2.cell? ⟨b', 0 + i * 1, none⟩ = some (.bool (decide (En.top l q (En.rec l i)))) := by
  obtain ⟨g', c, rfl⟩ := h.form h0
  exact ⟨g', c, rfl, fun i hi w2 h2 => ((Rd.ofOwn h).ch0 h2).cellIn hi (marks_at hi)⟩

theorem fn39 (av : Value) (l : List En.Entry) (q : Int) (hs : l.Pairwise En.less) (hl : l.length ≤ 100000) (w : World) (ha : Rd w av 4 l.length (l.flatMap cl)) : Rets Try.prog 39 #[av, .int .i64 q] w (fun v w' => Own w' w.heap.size 32 4 v (En.live l q).length ((En.live l q).flatMap cl) ∧ Ch [] w w') := by
  obtain ⟨ad, c, rfl, _⟩ := ha.shape
  have hmm : maxLen = 9223372036854775807 := rfl
  refine Rets.of (n := 51) (vs := [_, _]) Try.func39 rfl rfl rfl ?_
  refine TC.seq ?_
  refine TC.region ?_
  refine TL.assign rfl rfl ?_
  refine TL.done ?_
  refine Thn.go ?_
  refine TC.seq ?_
  refine TC.region ?_
  refine TL.assign rfl rfl ?_
  refine TL.done ?_
  refine Thn.go ?_
  refine TC.seq ?_
  refine TC.seq ?_
  refine TC.region ?_
  refine TL.assign rfl rfl ?_
  refine TL.done ?_
  refine Thn.go ?_
  refine TC.block ?_
  refine TC.loop2 (fun (i : Nat) (ov : Value) => [(0, .slice ad l.length c), (1, .int .i64 q), (5, ov), (6, .int .i64 (i : Int))]) (fun i ov w' => i ≤ l.length ∧ Own w' w.heap.size 32 4 ov ((l.take i).filter (fun x => decide (En.top l q x ∧ ¬ x.gone = true))).length (((l.take i).filter (fun x => decide (En.top l q x ∧ ¬ x.gone = true))).flatMap cl) ∧ Ch [] w w') (fun i _ => l.length - i) 0 (.slice none 0 0) (by repeat (first | exact trivial | refine ⟨rfl, ?_⟩)) (⟨by omega, World.ownsRow_nil _ _ _ _, Ch.refl _ _⟩) (fun i ov w' hH => ?_)
  obtain ⟨hi, hown, hch⟩ := hH
  have hfl := En.filt_len l (fun x => decide (En.top l q x ∧ ¬ x.gone = true)) i
  refine TC.seq ?_
  refine TC.seq ?_
  refine TC.region ?_
  refine TL.move rfl rfl ?_
  refine TL.move rfl rfl ?_
  refine TL.lenSlice Try.underlying25 rfl rfl ?_
  refine TL.lss rfl rfl rfl ?_
  refine TL.done ?_
  refine Thn.go ?_
  refine TC.condP rfl (fun h1 => ?_) (fun h1 => ?_)
  ·
    have hil : i < l.length := by omega
    have hfy := En.filt_yes (f := fun x => decide (En.top l q x ∧ ¬ x.gone = true)) hil
    have hfn := En.filt_no (f := fun x => decide (En.top l q x ∧ ¬ x.gone = true)) hil
    have hiff := En.newest_iff hs (q := q) hil
    obtain ⟨b1, o1, rfl, hce⟩ := recIn ha hil
    obtain ⟨x, hx⟩ : ∃ x, En.rec l i = x := ⟨_, rfl⟩
    rw [hx] at hce hfy hfn hiff
    refine TC.skip ?_
    refine Thn.go ?_
    refine TC.seq ?_
    refine TC.block ?_
    refine TC.seq ?_
    refine TC.regionBool (d := 28) (p := (q < x.seq ∨ x.gone = true)) (fun K2 hK2 => ?_) ?_
    ·
      refine TL.move rfl rfl ?_
      refine TL.move rfl rfl ?_
      refine TL.indexAddr (i) sl25 rfl rfl (by first | rfl | omega) (by omega) rfl ?_
      refine TL.fieldAddr fd32k2 rfl rfl ?_
      refine TL.load pl3 rfl ((show _ = some (Value.int .i64 x.seq) from hce _ hch 2 (by decide))) rfl ?_
      refine TL.move rfl rfl ?_
      refine TL.gtr rfl rfl rfl ?_
      refine TL.em (fun e21 => ?_) (fun e21 => ?_)
      ·
        refine TL.move rfl rfl ?_
        refine TL.guardNo (d := 22) rfl rfl rfl rfl rfl ?_
        refine TL.guardNo (d := 22) rfl rfl rfl rfl rfl ?_
        refine TL.guardNo (d := 22) rfl rfl rfl rfl rfl ?_
        refine TL.guardNo (d := 22) rfl rfl rfl rfl rfl ?_
        refine TL.guardNo (d := 22) rfl rfl rfl rfl rfl ?_
        refine TL.pickT rfl rfl rfl rfl ?_
        refine TL.done ?_
        refine hK2 _ ?_
        refine Le.here rfl (by first | exact decide_eq_true (.inl (by omega)) | (rw [Bool.eq_iff_iff, decide_eq_true_iff]; exact ⟨fun h => h.resolve_left (by omega), .inr⟩)) ?_
        repeat (first | exact Le.refl _ | refine Le.skip rfl ?_)
      ·
        refine TL.move rfl rfl ?_
        refine TL.guardYes (d := 22) rfl rfl rfl ?_
        refine TL.move rfl rfl ?_
        refine TL.guardYes (d := 22) rfl rfl rfl ?_
        refine TL.move rfl rfl ?_
        refine TL.guardYes (d := 22) rfl rfl rfl ?_
        refine TL.indexAddr (i) sl25 rfl rfl (by first | rfl | omega) (by omega) rfl ?_
        refine TL.guardYes (d := 22) rfl rfl rfl ?_
        refine TL.fieldAddr fd32k3 rfl rfl ?_
        refine TL.guardYes (d := 22) rfl rfl rfl ?_
        refine TL.load pl4 rfl ((show _ = some (Value.bool x.gone) from hce _ hch 3 (by decide))) rfl ?_
        refine TL.pickF rfl rfl rfl rfl ?_
        refine TL.done ?_
        refine hK2 _ ?_
        refine Le.here rfl (by first | exact decide_eq_true (.inl (by omega)) | (rw [Bool.eq_iff_iff, decide_eq_true_iff]; exact ⟨fun h => h.resolve_left (by omega), .inr⟩)) ?_
        repeat (first | exact Le.refl _ | refine Le.skip rfl ?_)
    refine TC.condP rfl (fun h4 => ?_) (fun h4 => ?_)
    ·
      have hno : ¬ (En.top l q x ∧ ¬ x.gone = true) := fun ⟨h1, h2⟩ => by rcases (by assumption : q < x.seq ∨ x.gone = true) with h | h; have := h1.1; omega; exact h2 h
      refine TC.exit ?_
      refine Thn.exit ?_
      refine Blk.hit ?_
      refine Thn.go ?_
      refine TC.region ?_
      refine TL.move rfl rfl ?_
      refine TL.add_i64 rfl rfl (by omega) (by omega) rfl ?_
      refine TL.assign rfl rfl ?_
      refine TL.done ?_
      refine Lp.go ((i + 1, ov)) (by repeat (first | exact trivial | refine ⟨rfl, ?_⟩)) ?_ (by first | omega | (dsimp only; omega))
      exact ⟨by show i + 1 ≤ l.length; omega, by show Own w' w.heap.size 32 4 ov ((l.take (i + 1)).filter _).length _; rw [hfn (by simpa using hno)]; exact hown, hch⟩
    ·
      have hok : ¬ (q < x.seq ∨ x.gone = true) := by assumption
      refine TC.skip ?_
      refine Thn.go ?_
      refine TC.seq ?_
      refine TC.region ?_
      refine TL.move rfl rfl ?_
      refine TL.move rfl rfl ?_
      refine TL.move rfl rfl ?_
      refine TL.indexAddr (i) sl25 rfl rfl (by first | rfl | omega) (by omega) rfl ?_
      refine TL.fieldAddr fd32k0 rfl rfl ?_
      refine TL.load pl9 rfl ((show _ = some (str x.key) from hce _ hch 0 (by decide))) rfl ?_
      refine TL.move rfl rfl ?_
      refine TL.call can41 rfl rfl (fn41 _ l x.key q w' (ha.ch0 hch)) (fun v37 w37 hr37 => ?_)
      obtain ⟨rfl, hc37⟩ := hr37
      refine TL.move rfl rfl ?_
      refine TL.extract rfl rfl rfl ?_
      refine TL.extract rfl rfl rfl ?_
      refine TL.alloc ze32 rfl (fun w7 hb7 hc7 hz7 => ?_)
      refine TL.store sz32 rfl rfl rfl hb7 (by simp [Value.cells]) (by simpa [Value.cells] using cl_one ((En.newest l x.key q).getD e0)) (.inl rfl) (fun ws1 hbs1 hcs1 hzs1 => ?_)
      replace hbs1 : Has ws1 w37.heap.size (cl ((En.newest l x.key q).getD e0)).toArray 32 (0, 0) := hbs1.setAll rfl
      have q1 : Ch [] w' ws1 := hc37.trans0 (hc7.then1 hcs1 (Nat.le_refl _))
      have q2 := hch.trans0 q1
      refine TL.assign rfl rfl ?_
      refine TL.done ?_
      refine Thn.go ?_
      refine TC.seq ?_
      refine TC.regionQ (fun w6 => Ch [] ws1 w6) mixed0 (by kernel_rfl) (Ch.drew [] _) ?_
      refine TQ.via rfl rfl rfl rfl (fun w2 hw2 => TL.loadAgg (cl ((En.newest l x.key q).getD e0)) ag32 rfl rfl (fun j _ => by rw [(hbs1.ch0 hw2).cell, Nat.zero_add, List.getElem?_toArray]) rfl (TL.done ⟨rfl, rfl⟩)) ?_
      refine TQ.via rfl rfl rfl rfl (fun w2 hw2 => TL.move rfl rfl (TL.done ⟨rfl, rfl⟩)) ?_
      refine TQ.via rfl rfl rfl rfl (fun w2 hw2 => TL.move rfl rfl (TL.done ⟨rfl, rfl⟩)) ?_
      refine TQ.via rfl rfl rfl rfl (fun w2 hw2 => TL.indexAddr (i) sl25 rfl rfl (by first | rfl | omega) (by omega) rfl (TL.done ⟨rfl, rfl⟩)) ?_
      refine TQ.via rfl rfl rfl rfl (fun w2 hw2 => TL.loadAgg (cl x) ag32 rfl rfl (fun j hj => hce _ (q2.trans0 hw2) j hj) rfl (TL.done ⟨rfl, rfl⟩)) ?_
      refine TQ.via rfl rfl rfl rfl (fun w2 hw2 => TL.eqlAgg gd32 (eqEntry _ _ _) rfl rfl rfl (TL.done ⟨rfl, rfl⟩)) ?_
      refine TQ.done (fun w2 hw2 => ?_)
      refine Thn.go ?_
      refine TC.condP rfl (fun h5 => ?_) (fun h5 => ?_)
      ·
        have htop : En.top l q x ∧ ¬ x.gone = true := ⟨(hiff (by omega) e0).1 (by assumption), fun h => hok (.inr h)⟩
        refine TC.region ?_
        refine TL.move rfl rfl ?_
        refine TL.loadAgg (cl ((En.newest l x.key q).getD e0)) ag32 rfl rfl (fun j _ => by rw [(hbs1.ch0 hw2).cell, Nat.zero_add, List.getElem?_toArray]) rfl ?_
        refine TL.buildSlice [.tmp 47] sl25 rfl rfl rfl (by decide) (by first | simp [Value.cells]; done | simp [Value.cells, cl_len]; done) rfl (fun w48 hb48 hc48 hz48 => ?_)
        refine TL.append sl25 rfl rfl rfl (((hown.ch0 q1).ch0 hw2).ch0 hc48) (News.ofRd Try.underlying25 (recOne hb48) (rows_one _)) (by omega) (by omega) (by have := (q2.trans0 (hw2.trans0 hc48)).size; omega) (fun v49 w49 hv49 hc49 _ => ?_)
        refine TL.assign rfl rfl ?_
        refine TL.done ?_
        refine Blk.go ?_
        refine Thn.go ?_
        refine TC.region ?_
        refine TL.move rfl rfl ?_
        refine TL.add_i64 rfl rfl (by omega) (by omega) rfl ?_
        refine TL.assign rfl rfl ?_
        refine TL.done ?_
        refine Lp.go ((i + 1, v49)) (by repeat (first | exact trivial | refine ⟨rfl, ?_⟩)) ?_ (by first | omega | (dsimp only; omega))
        refine ⟨by show i + 1 ≤ l.length; omega, ?_, (((hown.ch0 q1).ch0 hw2).ch0 hc48).thenCh' (q2.trans0 (hw2.trans0 hc48)) hc49 (Nat.le_refl _)⟩
        show Own w49 w.heap.size 32 4 v49 ((l.take (i + 1)).filter _).length _
        rw [hfy (decide_eq_true htop), List.length_append, List.flatMap_append]
        rwa [show (En.newest l x.key q).getD e0 = x from by assumption] at hv49
      ·
        have hno : ¬ (En.top l q x ∧ ¬ x.gone = true) := fun ⟨h1, _⟩ => (by assumption : ¬ (En.newest l x.key q).getD e0 = x) ((hiff (by omega) e0).2 h1)
        refine TC.skip ?_
        refine Blk.go ?_
        refine Thn.go ?_
        refine TC.region ?_
        refine TL.move rfl rfl ?_
        refine TL.add_i64 rfl rfl (by omega) (by omega) rfl ?_
        refine TL.assign rfl rfl ?_
        refine TL.done ?_
        refine Lp.go ((i + 1, ov)) (by repeat (first | exact trivial | refine ⟨rfl, ?_⟩)) ?_ (by first | omega | (dsimp only; omega))
        exact ⟨by show i + 1 ≤ l.length; omega, by show Own w2 w.heap.size 32 4 ov ((l.take (i + 1)).filter _).length _; rw [hfn (by simpa using hno)]; exact (hown.ch0 q1).ch0 hw2, q2.trans0 hw2⟩
  ·
    have hil : i = l.length := by omega
    subst hil
    rw [List.take_length] at hown
    refine TC.exit ?_
    refine Thn.exit ?_
    refine Lp.exit ?_
    refine Blk.hit ?_
    refine Thn.go ?_
    refine TC.seq ?_
    refine TC.region ?_
    refine TL.move rfl rfl ?_
    refine TL.assign rfl rfl ?_
    refine TL.done ?_
    refine Thn.go ?_
    refine TC.ret ?_
    refine Ends.ret [4] rfl rfl ?_
    exact ⟨hown, hch⟩

theorem fn17 (av : Value) (Ls : List Row) (q : Int) (w : World) (ha : Rd w av 1 Ls.length (vals Ls)) (hr : ∀ p ∈ Ls, Rd w p.1 4 p.2.length (p.2.flatMap cl)) (hsum : (Ls.map (·.2)).flatten.length ≤ 2000000) : Rets Try.prog 17 #[av, .int .i64 q] w (fun r w' => ∃ o, r = .tuple #[o, .int .i64 (En.liveE (Ls.map (·.2)) q : Int)] ∧ Own w' w.heap.size 32 4 o (En.liveL (Ls.map (·.2)) q).length ((En.liveL (Ls.map (·.2)) q).flatMap cl) ∧ Ch [] w w') := by
  have hmm : maxLen = 9223372036854775807 := rfl
  refine Rets.of (n := 52) (vs := [_, _]) Try.func17 rfl rfl rfl ?_
  refine TC.seq ?_
  refine TC.region ?_
  refine TL.assign rfl rfl ?_
  refine TL.assign rfl rfl ?_
  refine TL.done ?_
  refine Thn.go ?_
  refine TC.seq ?_
  refine TC.region ?_
  refine TL.move rfl rfl ?_
  refine TL.call can12 rfl rfl (fn12 av Ls w ha hr hsum) (fun v14 w14 hr14 => ?_)
  obtain ⟨o14, rfl, hv14, hc14⟩ := hr14
  refine TL.move rfl rfl ?_
  refine TL.extract rfl rfl rfl ?_
  refine TL.extract rfl rfl rfl ?_
  refine TL.assign rfl rfl ?_
  refine TL.assign rfl rfl ?_
  refine TL.done ?_
  refine Thn.go ?_
  refine TC.seq ?_
  refine TC.seq ?_
  refine TC.region ?_
  refine TL.move rfl rfl ?_
  refine TL.neq rfl rfl rfl ?_
  refine TL.done ?_
  refine Thn.go ?_
  refine TC.condP rfl (fun h1 => ?_) (fun h1 => ?_)
  ·
    obtain ⟨e1, e2⟩ := En.live_bad (Ls := Ls.map (·.2)) (q := q) (by omega)
    refine TC.seq ?_
    refine TC.region ?_
    refine TL.move rfl rfl ?_
    refine TL.assign rfl rfl ?_
    refine TL.assign rfl rfl ?_
    refine TL.done ?_
    refine Thn.go ?_
    refine TC.ret ?_
    refine Thn.ret ?_
    refine Ends.ret [4, 5] rfl rfl ?_
    exact ⟨_, by rw [e1]; rfl, by rw [e2]; exact World.ownsRow_nil _ _ _ _, hc14⟩
  ·
    have h0 : En.allE (Ls.map (·.2)) = 0 := by omega
    obtain ⟨_, _, hmax, hpm, hs⟩ := En.all_zero h0
    have hl := hpm.length_eq
    obtain ⟨l, hl0⟩ : ∃ l, En.allL (Ls.map (·.2)) = l := ⟨_, rfl⟩
    rw [hl0] at hv14 hs hl
    obtain ⟨ad, c, rfl⟩ := hv14.shape
    refine TC.skip ?_
    refine Thn.go ?_
    refine TC.seq ?_
    refine TC.seq ?_
    refine TC.region ?_
    refine TL.move rfl rfl ?_
    refine TL.call can37 rfl rfl (fn37 q w14) (fun v21 w21 hr21 => ?_)
    obtain ⟨rfl, rfl⟩ := hr21
    refine TL.assign rfl rfl ?_
    refine TL.done ?_
    refine Thn.go ?_
    refine TC.seq ?_
    refine TC.region ?_
    refine TL.move rfl rfl ?_
    refine TL.neq rfl rfl rfl ?_
    refine TL.done ?_
    refine Thn.go ?_
    refine TC.condP rfl (fun h2 => ?_) (fun h2 => ?_)
    ·
      have hq : q < 0 ∨ 2147483647 < q := Decidable.not_not.1 (fun h => by rw [En.argE, if_neg h] at *; contradiction)
      obtain ⟨e1, e2⟩ := En.live_arg (q := q) h0 hq
      refine TC.seq ?_
      refine TC.region ?_
      refine TL.move rfl rfl ?_
      refine TL.assign rfl rfl ?_
      refine TL.assign rfl rfl ?_
      refine TL.done ?_
      refine Thn.go ?_
      refine TC.ret ?_
      refine Thn.ret ?_
      refine Ends.ret [4, 5] rfl rfl ?_
      exact ⟨_, by rw [e1, En.argE, if_pos hq]; rfl, by rw [e2]; exact World.ownsRow_nil _ _ _ _, hc14⟩
    ·
      have hq : ¬ (q < 0 ∨ 2147483647 < q) := fun h => by rw [En.argE, if_pos h] at *; contradiction
      obtain ⟨e1, e2⟩ := En.live_ok (q := q) h0 hq
      rw [hl0] at e2
      refine TC.skip ?_
      refine Thn.go ?_
      refine TC.seq ?_
      refine TC.region ?_
      refine TL.assign rfl rfl ?_
      refine TL.done ?_
      refine Thn.go ?_
      refine TC.seq ?_
      refine TC.seq ?_
      refine TC.region ?_
      refine TL.move rfl rfl ?_
      refine TL.move rfl rfl ?_
      refine TL.call can38 rfl rfl (fn38 _ l q hs (by omega) _ (Rd.ofOwn hv14)) (fun v27 w27 hr27 => ?_)
      obtain ⟨⟨a27, c27, rfl⟩, hv27, hc27⟩ := hr27
      have hrd := (Rd.ofOwn hv14).ch0 hc27
      refine TL.lenSlice Try.underlying67 rfl rfl ?_
      refine TL.move rfl rfl ?_
      refine TL.done ?_
      refine Thn.go ?_
      refine TC.block ?_
      refine TC.loop2 (fun (i : Nat) (ov : Value) => [(6, .slice ad l.length c), (9, ov), (27, .slice a27 l.length c27), (28, .int .i64 (l.length : Int)), (29, .int .i64 (i : Int))]) (fun i ov w' => i ≤ l.length ∧ Own w' w27.heap.size 32 4 ov ((l.take i).filter (fun x => decide (En.top l q x ∧ ¬ x.gone = true))).length (((l.take i).filter (fun x => decide (En.top l q x ∧ ¬ x.gone = true))).flatMap cl) ∧ Ch [] w27 w') (fun i _ => l.length - i) 0 (.slice none 0 0) (by repeat (first | exact trivial | refine ⟨rfl, ?_⟩)) (⟨by omega, World.ownsRow_nil _ _ _ _, Ch.refl _ _⟩) (fun i ov w' hH => ?_)
      obtain ⟨hi, hown, hch⟩ := hH
      have hfl := En.filt_len l (fun x => decide (En.top l q x ∧ ¬ x.gone = true)) i
      refine TC.seq ?_
      refine TC.region ?_
      refine TL.lss rfl rfl rfl ?_
      refine TL.done ?_
      refine Thn.go ?_
      refine TC.seq ?_
      refine TC.condP rfl (fun h3 => ?_) (fun h3 => ?_)
      ·
        have hil : i < l.length := by omega
        have hfy := En.filt_yes (f := fun x => decide (En.top l q x ∧ ¬ x.gone = true)) hil
        have hfn := En.filt_no (f := fun x => decide (En.top l q x ∧ ¬ x.gone = true)) hil
        obtain ⟨b1, o1, rfl, hce⟩ := recIn hrd hil
        obtain ⟨g27, k27, e27, hmk⟩ := marksIn hv27 (by omega)
        cases e27
        have hmk := hmk i hil _ hch
        obtain ⟨x, hx⟩ : ∃ x, En.rec l i = x := ⟨_, rfl⟩
        rw [hx] at hce hfy hfn hmk
        refine TC.skip ?_
        refine Thn.go ?_
        refine TC.seq ?_
        refine TC.block ?_
        refine TC.seq ?_
        refine TC.region ?_
        refine TL.move rfl rfl ?_
        refine TL.indexAddr (i) sl67 rfl rfl (by first | rfl | omega) (by omega) rfl ?_
        refine TL.load pl4 rfl (hmk) rfl ?_
        refine TL.assign rfl rfl ?_
        refine TL.assign rfl rfl ?_
        refine TL.done ?_
        refine Thn.go ?_
        refine TC.regionBool (d := 42) (p := (En.top l q x ∧ ¬ x.gone = true)) (fun K4 hK4 => ?_) ?_
        ·
          refine TL.move rfl rfl ?_
          refine TL.emB (fun e34 => ?_) (fun e34 => ?_)
          ·
            refine TL.move rfl rfl ?_
            refine TL.guardYes (d := 35) rfl rfl rfl ?_
            refine TL.move rfl rfl ?_
            refine TL.guardYes (d := 35) rfl rfl rfl ?_
            refine TL.move rfl rfl ?_
            refine TL.guardYes (d := 35) rfl rfl rfl ?_
            refine TL.indexAddr (i) sl25 rfl rfl (by first | rfl | omega) (by omega) rfl ?_
            refine TL.guardYes (d := 35) rfl rfl rfl ?_
            refine TL.fieldAddr fd32k3 rfl rfl ?_
            refine TL.guardYes (d := 35) rfl rfl rfl ?_
            refine TL.load pl4 rfl ((show _ = some (Value.bool x.gone) from hce _ hch 3 (by decide))) rfl ?_
            refine TL.guardYes (d := 35) rfl rfl rfl ?_
            refine TL.not rfl rfl ?_
            refine TL.pickT rfl rfl rfl rfl ?_
            refine TL.done ?_
            refine hK4 _ ?_
            refine Le.here rfl (by rw [Bool.eq_iff_iff, decide_eq_true_iff]; simp_all) ?_
            repeat (first | exact Le.refl _ | refine Le.skip rfl ?_)
          ·
            refine TL.move rfl rfl ?_
            refine TL.guardNo (d := 35) rfl rfl rfl rfl rfl ?_
            refine TL.guardNo (d := 35) rfl rfl rfl rfl rfl ?_
            refine TL.guardNo (d := 35) rfl rfl rfl rfl rfl ?_
            refine TL.guardNo (d := 35) rfl rfl rfl rfl rfl ?_
            refine TL.guardNo (d := 35) rfl rfl rfl rfl rfl ?_
            refine TL.guardNo (d := 35) rfl rfl rfl rfl rfl ?_
            refine TL.pickF rfl rfl rfl rfl ?_
            refine TL.done ?_
            refine hK4 _ ?_
            refine Le.here rfl (by rw [Bool.eq_iff_iff, decide_eq_true_iff]; simp_all) ?_
            repeat (first | exact Le.refl _ | refine Le.skip rfl ?_)
        refine TC.condP rfl (fun h5 => ?_) (fun h5 => ?_)
        ·
          have htop : En.top l q x ∧ ¬ x.gone = true := by assumption
          refine TC.region ?_
          refine TL.move rfl rfl ?_
          refine TL.move rfl rfl ?_
          refine TL.move rfl rfl ?_
          refine TL.indexAddr (i) sl25 rfl rfl (by first | rfl | omega) (by omega) rfl ?_
          refine TL.loadAgg (cl x) ag32 rfl rfl (fun j hj => hce _ hch j hj) rfl ?_
          refine TL.buildSlice [.tmp 47] sl25 rfl rfl rfl (by decide) (by first | simp [Value.cells]; done | simp [Value.cells, cl_len]; done) rfl (fun w48 hb48 hc48 hz48 => ?_)
          refine TL.append sl25 rfl rfl rfl (hown.ch0 hc48) (News.ofRd Try.underlying25 (recOne hb48) (rows_one _)) (by omega) (by omega) (by have := (hch.trans0 hc48).size; omega) (fun v49 w49 hv49 hc49 _ => ?_)
          refine TL.assign rfl rfl ?_
          refine TL.done ?_
          refine Blk.go ?_
          refine Thn.go ?_
          refine TC.region ?_
          refine TL.add_i64 rfl rfl (by omega) (by omega) rfl ?_
          refine TL.move rfl rfl ?_
          refine TL.done ?_
          refine Lp.go ((i + 1, v49)) (by repeat (first | exact trivial | refine ⟨rfl, ?_⟩)) ?_ (by first | omega | (dsimp only; omega))
          refine ⟨by show i + 1 ≤ l.length; omega, ?_, (hown.ch0 hc48).thenCh' (hch.trans0 hc48) hc49 (Nat.le_refl _)⟩
          show Own w49 w27.heap.size 32 4 v49 ((l.take (i + 1)).filter _).length _
          rw [hfy (decide_eq_true htop), List.length_append, List.flatMap_append]; exact hv49
        ·
          have hno : ¬ (En.top l q x ∧ ¬ x.gone = true) := by assumption
          refine TC.skip ?_
          refine Blk.go ?_
          refine Thn.go ?_
          refine TC.region ?_
          refine TL.add_i64 rfl rfl (by omega) (by omega) rfl ?_
          refine TL.move rfl rfl ?_
          refine TL.done ?_
          refine Lp.go ((i + 1, ov)) (by repeat (first | exact trivial | refine ⟨rfl, ?_⟩)) ?_ (by first | omega | (dsimp only; omega))
          exact ⟨by show i + 1 ≤ l.length; omega, by show Own w' w27.heap.size 32 4 ov ((l.take (i + 1)).filter _).length _; rw [hfn (decide_eq_false hno)]; exact hown, hch⟩
      ·
        have hil : i = l.length := by omega
        subst hil
        rw [List.take_length] at hown
        refine TC.exit ?_
        refine Thn.exit ?_
        refine Lp.exit ?_
        refine Blk.hit ?_
        refine Thn.go ?_
        refine TC.seq ?_
        refine TC.region ?_
        refine TL.move rfl rfl ?_
        refine TL.assign rfl rfl ?_
        refine TL.assign rfl rfl ?_
        refine TL.done ?_
        refine Thn.go ?_
        refine TC.ret ?_
        refine Ends.ret [4, 5] rfl rfl ?_
        exact ⟨_, by rw [e1]; rfl, by rw [e2]; exact hown.base (hc14.trans0 hc27).size, hc14.trans0 (hc27.trans0 hch)⟩

theorem fn18 (av : Value) (Ls : List Row) (q : Int) (w : World) (ha : Rd w av 1 Ls.length (vals Ls)) (hr : ∀ p ∈ Ls, Rd w p.1 4 p.2.length (p.2.flatMap cl)) (hsum : (Ls.map (·.2)).flatten.length ≤ 1000000) : Rets Try.prog 18 #[av, .int .i64 q] w (fun r w' => ∃ o, r = .tuple #[o, .int .i64 (En.liveE (Ls.map (·.2)) q : Int)] ∧ Own w' w.heap.size 32 4 o (En.liveL (Ls.map (·.2)) q).length ((En.liveL (Ls.map (·.2)) q).flatMap cl) ∧ Ch [] w w') := by
  refine Rets.of (n := 25) (vs := [_, _]) Try.func18 rfl rfl rfl ?_
  refine TC.seq ?_
  refine TC.region ?_
  refine TL.assign rfl rfl ?_
  refine TL.assign rfl rfl ?_
  refine TL.done ?_
  refine Thn.go ?_
  refine TC.seq ?_
  refine TC.region ?_
  refine TL.move rfl rfl ?_
  refine TL.call can16 rfl rfl (fn16 av Ls w ha hr hsum) (fun v10 w10 hr10 => ?_)
  obtain ⟨o10, rfl, hv10, hc10⟩ := hr10
  refine TL.move rfl rfl ?_
  refine TL.extract rfl rfl rfl ?_
  refine TL.extract rfl rfl rfl ?_
  refine TL.assign rfl rfl ?_
  refine TL.assign rfl rfl ?_
  refine TL.done ?_
  refine Thn.go ?_
  refine TC.seq ?_
  refine TC.seq ?_
  refine TC.region ?_
  refine TL.move rfl rfl ?_
  refine TL.neq rfl rfl rfl ?_
  refine TL.done ?_
  refine Thn.go ?_
  refine TC.condP rfl (fun h1 => ?_) (fun h1 => ?_)
  ·
    obtain ⟨e1, e2⟩ := En.live_bad (Ls := Ls.map (·.2)) (q := q) (by omega)
    refine TC.seq ?_
    refine TC.region ?_
    refine TL.move rfl rfl ?_
    refine TL.assign rfl rfl ?_
    refine TL.assign rfl rfl ?_
    refine TL.done ?_
    refine Thn.go ?_
    refine TC.ret ?_
    refine Thn.ret ?_
    refine Ends.ret [4, 5] rfl rfl ?_
    exact ⟨_, by rw [e1]; rfl, by rw [e2]; exact World.ownsRow_nil _ _ _ _, hc10⟩
  ·
    have h0 : En.allE (Ls.map (·.2)) = 0 := by omega
    obtain ⟨_, _, hmax, hpm, hs⟩ := En.all_zero h0
    have hl := hpm.length_eq
    refine TC.skip ?_
    refine Thn.go ?_
    refine TC.seq ?_
    refine TC.regionBool (d := 21) (p := (q < 0 ∨ 2147483647 < q)) (fun K2 hK2 => ?_) ?_
    ·
      refine TL.move rfl rfl ?_
      refine TL.lss rfl rfl rfl ?_
      refine TL.em (fun e17 => ?_) (fun e17 => ?_)
      ·
        refine TL.move rfl rfl ?_
        refine TL.guardNo (d := 18) rfl rfl rfl rfl rfl ?_
        refine TL.guardNo (d := 18) rfl rfl rfl rfl rfl ?_
        refine TL.pickT rfl rfl rfl rfl ?_
        refine TL.done ?_
        refine hK2 _ ?_
        refine Le.here rfl (by first | exact decide_eq_true (by omega) | exact decide_eq_false (by omega) | exact decide_eq_decide.2 (by omega) | exact decide_eq_true (by grind) | exact decide_eq_false (by grind) | exact decide_eq_decide.2 (by grind)) ?_
        repeat (first | exact Le.refl _ | refine Le.skip rfl ?_)
      ·
        refine TL.move rfl rfl ?_
        refine TL.guardYes (d := 18) rfl rfl rfl ?_
        refine TL.move rfl rfl ?_
        refine TL.guardYes (d := 18) rfl rfl rfl ?_
        refine TL.gtr rfl rfl rfl ?_
        refine TL.pickF rfl rfl rfl rfl ?_
        refine TL.done ?_
        refine hK2 _ ?_
        refine Le.here rfl (by first | exact decide_eq_true (by omega) | exact decide_eq_false (by omega) | exact decide_eq_decide.2 (by omega) | exact decide_eq_true (by grind) | exact decide_eq_false (by grind) | exact decide_eq_decide.2 (by grind)) ?_
        repeat (first | exact Le.refl _ | refine Le.skip rfl ?_)
    refine TC.condP rfl (fun h4 => ?_) (fun h4 => ?_)
    ·
      obtain ⟨e1, e2⟩ := En.live_arg (q := q) h0 (by assumption)
      refine TC.seq ?_
      refine TC.region ?_
      refine TL.assign rfl rfl ?_
      refine TL.assign rfl rfl ?_
      refine TL.done ?_
      refine Thn.go ?_
      refine TC.ret ?_
      refine Thn.ret ?_
      refine Ends.ret [4, 5] rfl rfl ?_
      exact ⟨_, by rw [e1]; rfl, by rw [e2]; exact World.ownsRow_nil _ _ _ _, hc10⟩
    ·
      obtain ⟨e1, e2⟩ := En.live_ok (q := q) h0 (by assumption)
      refine TC.skip ?_
      refine Thn.go ?_
      refine TC.seq ?_
      refine TC.region ?_
      refine TL.move rfl rfl ?_
      refine TL.move rfl rfl ?_
      refine TL.call can39 rfl rfl (fn39 _ _ q hs (by omega) w10 (Rd.ofOwn hv10)) (fun v24 w24 hr24 => ?_)
      obtain ⟨hv24, hc24⟩ := hr24
      refine TL.assign rfl rfl ?_
      refine TL.assign rfl rfl ?_
      refine TL.done ?_
      refine Thn.go ?_
      refine TC.ret ?_
      refine Ends.ret [4, 5] rfl rfl ?_
      exact ⟨_, by rw [e1]; rfl, by rw [e2]; exact hv24.base hc10.size, hc10.trans0 hc24⟩

