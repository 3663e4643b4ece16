/-
  Walks through the given program: each theorem fnN says what the call of function N of the translation hands back, for all arguments that its premises describe, and that nothing that was there has turned.
-/
import Derived.Test.YtilnoklpikblgaaE13
namespace Go.En
/-- What the law leaves to itself: rows of middle length, many rows, many entries. -/
def heavyP (D : List (List Entry)) : Prop := (∃ r ∈ D, 200 < r.length ∧ r.length ≤ 4096) ∨ (100 < D.length ∨ 6000 < D.flatten.length)
instance (D : List (List Entry)) : Decidable (heavyP D) := inferInstanceAs (Decidable (_ ∨ _))
theorem take_map {β : Type} {Ls : List (β × List Entry)} {i : Nat} (h : i < Ls.length) : (Ls.take (i + 1)).map (·.2) = (Ls.take i).map (·.2) ++ [Ls[i].2] := by
  rw [List.take_add_one, List.getElem?_eq_getElem h, List.map_append]; rfl
theorem map_at {β γ : Type} {A : List (β × List Entry)} {B : List (γ × List Entry)} (h : A.map (·.2) = B.map (·.2)) {i : Nat} (ha : i < A.length) (hb : i < B.length) : A[i].2 = B[i].2 := by
  have := congrArg (fun l => l[i]?) h
  simpa [List.getElem?_map, List.getElem?_eq_getElem ha, List.getElem?_eq_getElem hb] using this
end Go.En
namespace Go.Proofs.Ytilnoklpikblgaa
open Go.Lane
theorem can19 : Callable Try.prog 19 := ⟨Try.f19, Try.func19, by kernel_rfl, rfl⟩

theorem fn11 (av : Value) (Ls : List Row) (w : World) (ha : Rd w av 1 Ls.length (vals Ls)) (hr : ∀ p ∈ Ls, Rd w p.1 4 p.2.length (p.2.flatMap cl)) (hsum : (Ls.map (·.2)).flatten.length ≤ 2000000) : Rets Try.prog 11 #[av] w (fun r w' => r = .bool (decide (En.heavyP (Ls.map (·.2)))) ∧ Ch [] w w') := by
  obtain ⟨ad, c, rfl, _⟩ := ha.shape
  have hmm : maxLen = 9223372036854775807 := rfl
  obtain ⟨D, hD⟩ : ∃ D, Ls.map (·.2) = D := ⟨_, rfl⟩
  have hDl : D.length = Ls.length := by rw [← hD]; simp
  have hDg : ∀ (i : Nat) (h : i < Ls.length), D[i]'(by omega) = Ls[i].2 := fun i h => by subst hD; simp
  rw [hD] at hsum ⊢
  have hnl := ha.nlt
  refine Rets.of (n := 39) (vs := [_]) Try.func11 rfl rfl rfl ?_
  refine TC.seq ?_
  refine TC.region ?_
  refine TL.assign rfl rfl ?_
  refine TL.done ?_
  refine Thn.go ?_
  refine TC.seq ?_
  refine TC.region ?_
  refine TL.assign rfl rfl ?_
  refine TL.done ?_
  refine Thn.go ?_
  refine TC.seq ?_
  refine TC.seq ?_
  refine TC.region ?_
  refine TL.assign rfl rfl ?_
  refine TL.done ?_
  refine Thn.go ?_
  refine TC.block ?_
  refine TC.loop1 (fun (i : Nat) => [(0, .slice ad Ls.length c), (3, .int .i64 (En.many D i : Int)), (4, .int .i64 (i : Int))]) (fun i w' => i ≤ Ls.length ∧ (∀ j (hj : j < i) (hj2 : j < D.length), ¬ (200 < D[j].length ∧ D[j].length ≤ 4096)) ∧ Ch [] w w') (fun i => Ls.length - i) 0 (by repeat (first | exact trivial | refine ⟨rfl, ?_⟩)) (⟨by omega, fun j hj => by omega, Ch.refl _ _⟩) (fun i w' hH => ?_)
  obtain ⟨hi, hg, hch⟩ := hH
  have hsu := Nat.le_trans (En.many_le D i) hsum
  refine TC.seq ?_
  refine TC.seq ?_
  refine TC.region ?_
  refine TL.move rfl rfl ?_
  refine TL.move rfl rfl ?_
  refine TL.lenSlice Try.underlying22 rfl rfl ?_
  refine TL.lss rfl rfl rfl ?_
  refine TL.done ?_
  refine Thn.go ?_
  refine TC.condP rfl (fun h1 => ?_) (fun h1 => ?_)
  ·
    have hil : i < Ls.length := by omega
    obtain ⟨b1, o1, rfl⟩ := ha.some_ (by omega)
    have hcell : ∀ w2, Ch [] w w2 → w2.cell? ⟨b1, o1 + i * 1, none⟩ = some Ls[i].1 := fun w2 h2 => Rd.eltIn (f := (·.1)) (ha.ch0 h2) hil
    have hri := hr Ls[i] (List.getElem_mem hil)
    have hDi := hDg i hil
    have hmn := En.many_next (Ls := D) (k := i) (by omega)
    have hml := Nat.le_trans (En.many_le D (i + 1)) hsum
    rw [hDi] at hmn
    obtain ⟨x, ex⟩ : ∃ x, Ls[i] = x := ⟨_, rfl⟩
    rw [ex] at hcell hri hmn hDi
    obtain ⟨xv, r⟩ := x
    replace hri : Rd w xv 4 r.length (r.flatMap cl) := hri
    replace hmn : En.many D (i + 1) = En.many D i + r.length := hmn
    replace hDi : D[i]'(by omega) = r := hDi
    obtain ⟨ar, cr, rfl, _⟩ := hri.shape
    refine TC.skip ?_
    refine Thn.go ?_
    refine TC.seq ?_
    refine TC.block ?_
    refine TC.seq ?_
    refine TC.regionBool (d := 24) (p := (200 < r.length ∧ r.length ≤ 4096)) (fun K2 hK2 => ?_) ?_
    ·
      refine TL.move rfl rfl ?_
      refine TL.move rfl rfl ?_
      refine TL.indexAddr (i) sl22 rfl rfl (by first | rfl | omega) (by omega) rfl ?_
      refine TL.load pl25 rfl (hcell _ hch) rfl ?_
      refine TL.lenSlice Try.underlying25 rfl rfl ?_
      refine TL.gtr rfl rfl rfl ?_
      refine TL.em (fun e16 => ?_) (fun e16 => ?_)
      ·
        refine TL.move rfl rfl ?_
        refine TL.guardYes (d := 17) rfl rfl rfl ?_
        refine TL.move rfl rfl ?_
        refine TL.guardYes (d := 17) rfl rfl rfl ?_
        refine TL.move rfl rfl ?_
        refine TL.guardYes (d := 17) rfl rfl rfl ?_
        refine TL.indexAddr (i) sl22 rfl rfl (by first | rfl | omega) (by omega) rfl ?_
        refine TL.guardYes (d := 17) rfl rfl rfl ?_
        refine TL.load pl25 rfl (hcell _ hch) rfl ?_
        refine TL.guardYes (d := 17) rfl rfl rfl ?_
        refine TL.lenSlice Try.underlying25 rfl rfl ?_
        refine TL.guardYes (d := 17) rfl rfl rfl ?_
        refine TL.leq rfl rfl rfl ?_
        refine TL.pickT rfl rfl rfl rfl ?_
        refine TL.done ?_
        refine hK2 _ ?_
        refine Le.here rfl (by first | exact decide_eq_true (by omega) | exact decide_eq_false (by omega) | exact decide_eq_decide.2 (by omega) | exact decide_eq_true (by grind) | exact decide_eq_false (by grind) | exact decide_eq_decide.2 (by grind)) ?_
        repeat (first | exact Le.refl _ | refine Le.skip rfl ?_)
      ·
        refine TL.move rfl rfl ?_
        refine TL.guardNo (d := 17) rfl rfl rfl rfl rfl ?_
        refine TL.guardNo (d := 17) rfl rfl rfl rfl rfl ?_
        refine TL.guardNo (d := 17) rfl rfl rfl rfl rfl ?_
        refine TL.guardNo (d := 17) rfl rfl rfl rfl rfl ?_
        refine TL.guardNo (d := 17) rfl rfl rfl rfl rfl ?_
        refine TL.guardNo (d := 17) rfl rfl rfl rfl rfl ?_
        refine TL.pickF rfl rfl rfl rfl ?_
        refine TL.done ?_
        refine hK2 _ ?_
        refine Le.here rfl (by first | exact decide_eq_true (by omega) | exact decide_eq_false (by omega) | exact decide_eq_decide.2 (by omega) | exact decide_eq_true (by grind) | exact decide_eq_false (by grind) | exact decide_eq_decide.2 (by grind)) ?_
        repeat (first | exact Le.refl _ | refine Le.skip rfl ?_)
    refine TC.condP rfl (fun h4 => ?_) (fun h4 => ?_)
    ·
      have hin : 200 < r.length ∧ r.length ≤ 4096 := by assumption
      refine TC.seq ?_
      refine TC.region ?_
      refine TL.assign rfl rfl ?_
      refine TL.done ?_
      refine Thn.go ?_
      refine TC.ret ?_
      refine Thn.ret ?_
      refine Blk.ret ?_
      refine Thn.ret ?_
      refine Lp.ret ?_
      refine Blk.ret ?_
      refine Thn.ret ?_
      refine Ends.ret [2] rfl rfl ?_
      exact ⟨by rw [decide_eq_true (show En.heavyP D from .inl ⟨r, by rw [← hDi]; exact List.getElem_mem _, hin⟩)]; rfl, hch⟩
    ·
      have hin : ¬ (200 < r.length ∧ r.length ≤ 4096) := by assumption
      refine TC.skip ?_
      refine Thn.go ?_
      refine TC.region ?_
      refine TL.move rfl rfl ?_
      refine TL.move rfl rfl ?_
      refine TL.move rfl rfl ?_
      refine TL.indexAddr (i) sl22 rfl rfl (by first | rfl | omega) (by omega) rfl ?_
      refine TL.load pl25 rfl (hcell _ hch) rfl ?_
      refine TL.lenSlice Try.underlying25 rfl rfl ?_
      refine TL.add_i64 rfl rfl (by omega) (by omega) rfl ?_
      rw [show ((En.many D i : Nat) : Int) + (r.length : Int) = ((En.many D (i + 1) : Nat) : Int) by omega]
      refine TL.assign rfl rfl ?_
      refine TL.done ?_
      refine Blk.go ?_
      refine Thn.go ?_
      refine TC.region ?_
      refine TL.move rfl rfl ?_
      refine TL.add_i64 rfl rfl (by omega) (by omega) rfl ?_
      refine TL.assign rfl rfl ?_
      refine TL.done ?_
      refine Lp.go (i + 1) (by repeat (first | exact trivial | refine ⟨rfl, ?_⟩)) ?_ (by first | omega | (dsimp only; omega))
      refine ⟨by omega, fun j hj hj2 => ?_, hch⟩
      rcases Nat.lt_or_ge j i with h | h
      · exact hg j h hj2
      · obtain rfl : j = i := by omega
        rw [hDi]; exact hin
  ·
    have hil : i = Ls.length := by omega
    subst hil
    have hDall := En.many_all D
    rw [hDl] at hDall
    refine TC.exit ?_
    refine Thn.exit ?_
    refine Lp.exit ?_
    refine Blk.hit ?_
    refine Thn.go ?_
    refine TC.regionBool (d := 2) (p := (100 < Ls.length ∨ 6000 < En.many D Ls.length)) (fun K5 hK5 => ?_) ?_
    ·
      refine TL.move rfl rfl ?_
      refine TL.lenSlice Try.underlying22 rfl rfl ?_
      refine TL.gtr rfl rfl rfl ?_
      refine TL.em (fun e34 => ?_) (fun e34 => ?_)
      ·
        refine TL.move rfl rfl ?_
        refine TL.guardNo (d := 35) rfl rfl rfl rfl rfl ?_
        refine TL.guardNo (d := 35) rfl rfl rfl rfl rfl ?_
        refine TL.pickT rfl rfl rfl rfl ?_
        refine TL.assign rfl rfl ?_
        refine TL.done ?_
        refine hK5 _ ?_
        refine Le.here rfl (by first | exact decide_eq_true (by omega) | exact decide_eq_false (by omega) | exact decide_eq_decide.2 (by omega) | exact decide_eq_true (by grind) | exact decide_eq_false (by grind) | exact decide_eq_decide.2 (by grind)) ?_
        repeat (first | exact Le.refl _ | refine Le.skip rfl ?_)
      ·
        refine TL.move rfl rfl ?_
        refine TL.guardYes (d := 35) rfl rfl rfl ?_
        refine TL.move rfl rfl ?_
        refine TL.guardYes (d := 35) rfl rfl rfl ?_
        refine TL.gtr rfl rfl rfl ?_
        refine TL.pickF rfl rfl rfl rfl ?_
        refine TL.assign rfl rfl ?_
        refine TL.done ?_
        refine hK5 _ ?_
        refine Le.here rfl (by first | exact decide_eq_true (by omega) | exact decide_eq_false (by omega) | exact decide_eq_decide.2 (by omega) | exact decide_eq_true (by grind) | exact decide_eq_false (by grind) | exact decide_eq_decide.2 (by grind)) ?_
        repeat (first | exact Le.refl _ | refine Le.skip rfl ?_)
    refine TC.ret ?_
    refine Ends.ret [2] rfl rfl ?_
    exact ⟨by show Value.bool _ = Value.bool _; congr 1; rw [decide_eq_decide, En.heavyP, hDl, hDall]; exact ⟨.inr, fun h => h.resolve_left (fun ⟨r, hm, h2⟩ => by obtain ⟨j, hj, rfl⟩ := List.getElem_of_mem hm; exact hg j (by omega) hj h2)⟩, hch⟩

theorem fn15 (av : Value) (Ls : List Row) (w : World) (ha : Rd w av 1 Ls.length (vals Ls)) (hr : ∀ p ∈ Ls, Rd w p.1 4 p.2.length (p.2.flatMap cl)) (hsum : (Ls.map (·.2)).flatten.length ≤ 2000000) (hl : Ls.length ≤ 2000000) : Rets Try.prog 15 #[av] w (fun o w' => ∃ T : List Row, T.map (·.2) = Ls.map (·.2) ∧ Own w' w.heap.size 25 1 o T.length (vals T) ∧ (∀ p ∈ T, Own w' w.heap.size 32 4 p.1 p.2.length (p.2.flatMap cl)) ∧ (∀ p ∈ T, Apart o p.1) ∧ T.Pairwise (fun p q => Apart p.1 q.1) ∧ Ch [] w w') := by
  obtain ⟨ad, c, rfl, _⟩ := ha.shape
  have hmm : maxLen = 9223372036854775807 := rfl
  obtain ⟨D, hD⟩ : ∃ D, Ls.map (·.2) = D := ⟨_, rfl⟩
  have hDl : D.length = Ls.length := by rw [← hD]; simp
  have hDg : ∀ (i : Nat) (h : i < Ls.length), D[i]'(by omega) = Ls[i].2 := fun i h => by subst hD; simp
  rw [hD] at hsum
  refine Rets.of (n := 20) (vs := [_]) Try.func15 rfl rfl rfl ?_
  refine TC.seq ?_
  refine TC.region ?_
  refine TL.assign rfl rfl ?_
  refine TL.done ?_
  refine Thn.go ?_
  refine TC.seq ?_
  refine TC.region ?_
  refine TL.assign rfl rfl ?_
  refine TL.done ?_
  refine Thn.go ?_
  refine TC.seq ?_
  refine TC.seq ?_
  refine TC.region ?_
  refine TL.assign rfl rfl ?_
  refine TL.done ?_
  refine Thn.go ?_
  refine TC.block ?_
  refine TC.loop2 (fun (i : Nat) (ov : Value) => [(0, .slice ad Ls.length c), (3, ov), (4, .int .i64 (i : Int))]) (fun i ov w' => i ≤ Ls.length ∧ (∃ T : List Row, T.map (·.2) = (Ls.take i).map (·.2) ∧ Own w' w.heap.size 25 1 ov T.length (vals T) ∧ (∀ p ∈ T, Own w' w.heap.size 32 4 p.1 p.2.length (p.2.flatMap cl)) ∧ (∀ p ∈ T, Apart ov p.1) ∧ T.Pairwise (fun p q => Apart p.1 q.1)) ∧ Ch [] w w') (fun i _ => Ls.length - i) 0 (.slice none 0 0) (by repeat (first | exact trivial | refine ⟨rfl, ?_⟩)) (⟨by omega, ⟨[], rfl, World.ownsRow_nil _ _ _ _, by simp, by simp, List.Pairwise.nil⟩, Ch.refl _ _⟩) (fun i ov w' hH => ?_)
  obtain ⟨hi, ⟨T, hT, hown, hrw, hap, hpw⟩, hch⟩ := hH
  have hTl : T.length = i := by have := congrArg List.length hT; simp at this; omega
  refine TC.seq ?_
  refine TC.seq ?_
  refine TC.region ?_
  refine TL.move rfl rfl ?_
  refine TL.move rfl rfl ?_
  refine TL.lenSlice Try.underlying22 rfl rfl ?_
  refine TL.lss rfl rfl rfl ?_
  refine TL.done ?_
  refine Thn.go ?_
  refine TC.condP rfl (fun h1 => ?_) (fun h1 => ?_)
  ·
    have hil : i < Ls.length := by omega
    obtain ⟨b1, o1, rfl⟩ := ha.some_ (by omega)
    have hcell : w'.cell? ⟨b1, o1 + i * 1, none⟩ = some Ls[i].1 := Rd.eltIn (f := (·.1)) (ha.ch0 hch) hil
    have hri := hr Ls[i] (List.getElem_mem hil)
    have hDi := hDg i hil
    have hmn := En.many_next (Ls := D) (k := i) (by omega)
    have hml := Nat.le_trans (En.many_le D (i + 1)) hsum
    rw [hDi] at hmn
    have htm := En.take_map hil
    obtain ⟨x, ex⟩ : ∃ x, Ls[i] = x := ⟨_, rfl⟩
    rw [ex] at hcell hri hmn htm
    obtain ⟨xv, r⟩ := x
    replace hri : Rd w xv 4 r.length (r.flatMap cl) := hri
    replace hmn : En.many D (i + 1) = En.many D i + r.length := hmn
    replace htm : (Ls.take (i + 1)).map (·.2) = (Ls.take i).map (·.2) ++ [r] := htm
    obtain ⟨ar, cr, rfl, _⟩ := hri.shape
    refine TC.skip ?_
    refine Thn.go ?_
    refine TC.seq ?_
    refine TC.block ?_
    refine TC.region ?_
    refine TL.move rfl rfl ?_
    refine TL.move rfl rfl ?_
    refine TL.move rfl rfl ?_
    refine TL.indexAddr (i) sl22 rfl rfl (by first | rfl | omega) (by omega) rfl ?_
    refine TL.load pl25 rfl (hcell) rfl ?_
    refine TL.append (base := w'.heap.size) sl25 rfl rfl rfl (World.ownsRow_nil _ _ _ _) (News.ofRd Try.underlying25 (hri.ch0 hch) (rows_one _)) (by omega) (by omega) (Nat.le_refl _) (fun v16 w16 hv16 hc16 _ => ?_)
    rw [Nat.zero_add, List.nil_append] at hv16
    replace hc16 : Ch [] w' w16 := hc16
    obtain ⟨a16, c16, rfl⟩ := hv16.shape
    refine TL.buildSlice [.tmp 16] sl22 rfl rfl rfl (by decide) (by first | simp [Value.cells]; done | simp [Value.cells, cl_len]; done) rfl (fun w17 hb17 hc17 hz17 => ?_)
    refine TL.appendD sl22 rfl rfl rfl ((hown.ch0 hc16).ch0 hc17) (News.ofRd Try.underlying22 (Rd.ofRow (cs := [.slice a16 r.length c16]) hb17 rfl (by decide)) (one_slice _ _ _)) (by omega) (by omega) (by have := hch.size; have := hc16.size; have := hc17.size; omega) (fun v18 w18 hv18 hc18 hn18 => ?_)
    have q17 := hc16.trans0 hc17
    have hnew : Apart ov (.slice a16 r.length c16) := fun b h1 h2 => by have := hown.lt b h1; have := hv16.ge b h2; omega
    have h17 := hv16.ch0 hc17
    refine TL.assign rfl rfl ?_
    refine TL.done ?_
    refine Blk.go ?_
    refine Thn.go ?_
    refine TC.region ?_
    refine TL.move rfl rfl ?_
    refine TL.add_i64 rfl rfl (by omega) (by omega) rfl ?_
    refine TL.assign rfl rfl ?_
    refine TL.done ?_
    refine Lp.go ((i + 1, v18)) (by repeat (first | exact trivial | refine ⟨rfl, ?_⟩)) ?_ (by first | omega | (dsimp only; omega))
    refine ⟨by show i + 1 ≤ Ls.length; omega, ⟨T ++ [(.slice a16 r.length c16, r)], by show (T ++ _).map (·.2) = (Ls.take (i + 1)).map (·.2); rw [htm, List.map_append, hT]; rfl, by rw [List.length_append, vals_app]; exact hv18, fun p hp => ?_, fun p hp => ?_, ?_⟩, ((hown.ch0 hc16).ch0 hc17).thenCh' (hch.trans0 q17) hc18 (Nat.le_refl _)⟩
    · rcases List.mem_append.1 hp with h | h
      · exact ((hrw p h).ch0 q17).ch hc18 ((hap p h).notin)
      · rw [List.mem_singleton.1 h]; exact (h17.ch hc18 hnew.notin).base hch.size
    · rcases List.mem_append.1 hp with h | h
      · exact (hap p h).next hn18 (fun b hb => ((hrw p h).ch0 q17).lt b hb)
      · rw [List.mem_singleton.1 h]; exact hnew.next hn18 (fun b hb => h17.lt b hb)
    · refine List.pairwise_append.2 ⟨hpw, List.pairwise_singleton _ _, fun p hp q hq => ?_⟩
      rw [List.mem_singleton.1 hq]
      exact fun b h1 h2 => by have := (hrw p hp).lt b h1; have := hv16.ge b h2; omega
  ·
    have hil : i = Ls.length := by omega
    subst hil
    rw [List.take_length] at hT
    refine TC.exit ?_
    refine Thn.exit ?_
    refine Lp.exit ?_
    refine Blk.hit ?_
    refine Thn.go ?_
    refine TC.seq ?_
    refine TC.region ?_
    refine TL.move rfl rfl ?_
    refine TL.assign rfl rfl ?_
    refine TL.done ?_
    refine Thn.go ?_
    refine TC.ret ?_
    refine Ends.ret [2] rfl rfl ?_
    exact ⟨T, hT, hown, hrw, hap, hpw, hch⟩

theorem fn20 (av bv : Value) (A B : List Row) (he : A.map (·.2) = B.map (·.2)) (w : World) (ha : Rd w av 1 A.length (vals A)) (hb : Rd w bv 1 B.length (vals B)) (hra : ∀ p ∈ A, Rd w p.1 4 p.2.length (p.2.flatMap cl)) (hrb : ∀ p ∈ B, Rd w p.1 4 p.2.length (p.2.flatMap cl)) : Rets Try.prog 20 #[av, bv] w (fun r w' => r = .bool true ∧ Ch [] w w') := by
  have hl : A.length = B.length := by have := congrArg List.length he; simpa using this
  obtain ⟨ad, c, rfl, _⟩ := ha.shape
  obtain ⟨bd, d, rfl, _⟩ := hb.shape
  have hnl := ha.nlt
  have hmm : maxLen = 9223372036854775807 := rfl
  refine Rets.of (n := 27) (vs := [_, _]) Try.func20 rfl rfl rfl ?_
  refine TC.seq ?_
  refine TC.region ?_
  refine TL.assign rfl rfl ?_
  refine TL.done ?_
  refine Thn.go ?_
  refine TC.seq ?_
  refine TC.seq ?_
  refine TC.region ?_
  refine TL.move rfl rfl ?_
  refine TL.lenSlice Try.underlying22 rfl rfl ?_
  refine TL.move rfl rfl ?_
  refine TL.lenSlice Try.underlying22 rfl rfl ?_
  refine TL.neq rfl rfl rfl ?_
  refine TL.no (by omega) ?_
  refine TL.done ?_
  refine Thn.go ?_
  refine TC.condF rfl rfl ?_
  refine TC.skip ?_
  refine Thn.go ?_
  refine TC.seq ?_
  refine TC.seq ?_
  refine TC.region ?_
  refine TL.assign rfl rfl ?_
  refine TL.done ?_
  refine Thn.go ?_
  refine TC.block ?_
  refine TC.loop1 (fun (i : Nat) => [(0, .slice ad A.length c), (1, .slice bd B.length d), (5, .int .i64 (i : Int))]) (fun i w' => i ≤ A.length ∧ Ch [] w w') (fun i => A.length - i) 0 (by repeat (first | exact trivial | refine ⟨rfl, ?_⟩)) (⟨by omega, Ch.refl _ _⟩) (fun i w' hH => ?_)
  obtain ⟨hi, hch⟩ := hH
  refine TC.seq ?_
  refine TC.seq ?_
  refine TC.region ?_
  refine TL.move rfl rfl ?_
  refine TL.move rfl rfl ?_
  refine TL.lenSlice Try.underlying22 rfl rfl ?_
  refine TL.lss rfl rfl rfl ?_
  refine TL.done ?_
  refine Thn.go ?_
  refine TC.condP rfl (fun h2 => ?_) (fun h2 => ?_)
  ·
    have hil : i < A.length := by omega
    obtain ⟨b1, o1, rfl⟩ := ha.some_ (by omega)
    obtain ⟨b2, o2, rfl⟩ := hb.some_ (by omega)
    have hca : ∀ w2, Ch [] w w2 → w2.cell? ⟨b1, o1 + i * 1, none⟩ = some A[i].1 := fun w2 h2 => Rd.eltIn (f := (·.1)) (ha.ch0 h2) hil
    have hcb : ∀ w2, Ch [] w w2 → w2.cell? ⟨b2, o2 + i * 1, none⟩ = some (B[i]'(by omega)).1 := fun w2 h2 => Rd.eltIn (f := fun p : Row => p.1) (hb.ch0 h2) (by omega)
    have h1 := hra A[i] (List.getElem_mem hil)
    have h2 := hrb (B[i]'(by omega)) (List.getElem_mem _)
    have he2 : A[i].2 = (B[i]'(by omega)).2 := En.map_at he hil (by omega)
    obtain ⟨x, ex⟩ : ∃ x, A[i] = x := ⟨_, rfl⟩
    obtain ⟨y, ey⟩ : ∃ y, B[i]'(by omega) = y := ⟨_, rfl⟩
    rw [ex] at hca h1 he2
    rw [ey] at hcb h2 he2
    rw [← he2] at h2
    refine TC.skip ?_
    refine Thn.go ?_
    refine TC.seq ?_
    refine TC.block ?_
    refine TC.seq ?_
    refine TC.regionQ (fun w6 => Ch [] w w6) mixed0 (by kernel_rfl) (hch.trans0 (Ch.drew [] _)) ?_
    refine TQ.via rfl rfl rfl rfl (fun w2 hw2 => TL.move rfl rfl (TL.done ⟨rfl, rfl⟩)) ?_
    refine TQ.via rfl rfl rfl rfl (fun w2 hw2 => TL.move rfl rfl (TL.done ⟨rfl, rfl⟩)) ?_
    refine TQ.via rfl rfl rfl rfl (fun w2 hw2 => TL.indexAddr (i) sl22 rfl rfl (by first | rfl | omega) (by omega) rfl (TL.done ⟨rfl, rfl⟩)) ?_
    refine TQ.via rfl rfl rfl rfl (fun w2 hw2 => TL.load pl25 rfl (hca _ hw2) rfl (TL.done ⟨rfl, rfl⟩)) ?_
    refine TQ.via rfl rfl rfl rfl (fun w2 hw2 => TL.move rfl rfl (TL.done ⟨rfl, rfl⟩)) ?_
    refine TQ.via rfl rfl rfl rfl (fun w2 hw2 => TL.move rfl rfl (TL.done ⟨rfl, rfl⟩)) ?_
    refine TQ.via rfl rfl rfl rfl (fun w2 hw2 => TL.indexAddr (i) sl22 rfl rfl (by first | rfl | omega) (by omega) rfl (TL.done ⟨rfl, rfl⟩)) ?_
    refine TQ.via rfl rfl rfl rfl (fun w2 hw2 => TL.load pl25 rfl (hcb _ hw2) rfl (TL.done ⟨rfl, rfl⟩)) ?_
    refine TQ.call (.bool (decide (x.2 = x.2))) can19 rfl rfl (fun w2 hw2 => (fn19 _ _ x.2 x.2 w2 (h1.ch0 hw2) (h2.ch0 hw2)).mono (fun _ _ ⟨q1, q2⟩ => ⟨q1, hw2.trans0 q2⟩)) ?_
    refine TQ.via rfl rfl rfl rfl (fun w2 hw2 => TL.notP rfl rfl (TL.done ⟨rfl, rfl⟩)) ?_
    refine TQ.done (fun w2 hw2 => ?_)
    refine Thn.go ?_
    refine TC.condP rfl (fun h3 => ?_) (fun h3 => ?_)
    ·
      refine TC.seq ?_
      refine TC.region ?_
      refine TL.assign rfl rfl ?_
      refine TL.done ?_
      refine Thn.go ?_
      refine TC.ret ?_
      refine Blk.ret ?_
      refine Thn.ret ?_
      refine Lp.ret ?_
      refine Blk.ret ?_
      refine Thn.ret ?_
      refine Ends.ret [4] rfl rfl ?_
      exact absurd rfl (by assumption)
    ·
      refine TC.skip ?_
      refine Blk.go ?_
      refine Thn.go ?_
      refine TC.region ?_
      refine TL.move rfl rfl ?_
      refine TL.add_i64 rfl rfl (by omega) (by omega) rfl ?_
      refine TL.assign rfl rfl ?_
      refine TL.done ?_
      refine Lp.go (i + 1) (by repeat (first | exact trivial | refine ⟨rfl, ?_⟩)) ?_ (by first | omega | (dsimp only; omega))
      exact ⟨by omega, hw2⟩
  ·
    refine TC.exit ?_
    refine Thn.exit ?_
    refine Lp.exit ?_
    refine Blk.hit ?_
    refine Thn.go ?_
    refine TC.seq ?_
    refine TC.region ?_
    refine TL.assign rfl rfl ?_
    refine TL.done ?_
    refine Thn.go ?_
    refine TC.ret ?_
    refine Ends.ret [4] rfl rfl ?_
    exact ⟨rfl, hch⟩

