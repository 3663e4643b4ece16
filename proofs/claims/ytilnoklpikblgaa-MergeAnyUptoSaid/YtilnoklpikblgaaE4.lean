/-
  Walks through the given program: each theorem fnN says what the call of function N of the translation hands back, for all arguments that its premises describe, and that nothing that was there has turned.
-/
import Derived.Test.YtilnoklpikblgaaE3
namespace Go.Proofs.Ytilnoklpikblgaa
open Go.Lane
theorem can43 : Callable Try.prog 43 := ⟨Try.f43, Try.func43, by kernel_rfl, rfl⟩
theorem can48 : Callable Try.prog 48 := ⟨Try.f48, Try.func48, by kernel_rfl, rfl⟩
theorem pl25 : Plain Try.prog 25 := ⟨_, Try.underlying25, rfl⟩
theorem sl55 : SliceT Try.prog 55 25 1 24 (.slice none 0 0) := SliceT.mk' Try.underlying55 (by kernel_rfl) rfl rfl
theorem sz25 : (Try.prog.info? 25).map (·.size) = some 1 := by kernel_rfl
theorem sz55 : (Try.prog.info? 55).map (·.size) = some 1 := by kernel_rfl
abbrev Row := En.Row Value
theorem mtLen : MethT Try.prog 58 "Len" 29 false := by unfold MethT; kernel_rfl
theorem mtLess : MethT Try.prog 58 "Less" 67 false := by unfold MethT; kernel_rfl
theorem mtSwap : MethT Try.prog 58 "Swap" 68 false := by unfold MethT; kernel_rfl
theorem mtPop : MethT Try.prog 58 "Pop" 69 true := by unfold MethT; kernel_rfl
theorem pl55 : Plain Try.prog 55 := ⟨_, Try.underlying55, rfl⟩
theorem can29 : Callable Try.prog 29 := ⟨Try.f29, Try.func29, by kernel_rfl, rfl⟩
theorem can67 : Callable Try.prog 67 := ⟨Try.f67, Try.func67, by kernel_rfl, rfl⟩
theorem can68 : Callable Try.prog 68 := ⟨Try.f68, Try.func68, by kernel_rfl, rfl⟩
theorem can69 : Callable Try.prog 69 := ⟨Try.f69, Try.func69, by kernel_rfl, rfl⟩
/-- The cells of a queue: its rows' values. -/
def vals (L : List Row) : List Value := L.map (·.1)
theorem vals_len (L : List Row) : (vals L).length = L.length := by simp [vals]
/-- Every row is read, and lies in memory that was there first. -/
def RowsAt (w : World) (Q : Nat) (L : List Row) : Prop := ∀ p ∈ L, Rd w p.1 4 p.2.length (p.2.flatMap cl) ∧ ∀ k, p.1.ownBlock = some k → k < Q
theorem RowsAt.ch {w w' : World} {Q : Nat} {L : List Row} {S : List Nat} (h : RowsAt w Q L) (hc : Ch S w w') (hS : ∀ x ∈ S, Q ≤ x) : RowsAt w' Q L := fun p hp =>
  ⟨(h p hp).1.ch hc (fun k hk hm => by have := (h p hp).2 k hk; have := hS k hm; omega), (h p hp).2⟩
theorem RowsAt.ch0 {w w' : World} {Q : Nat} {L : List Row} (h : RowsAt w Q L) (hc : Ch [] w w') : RowsAt w' Q L := h.ch hc (by simp)
theorem RowsAt.perm {w : World} {Q : Nat} {L L' : List Row} (h : RowsAt w Q L) (hp : L'.Perm L) : RowsAt w Q L' := fun p hm => h p (hp.mem_iff.1 hm)
theorem RowsAt.perm' {w : World} {Q : Nat} {L L' : List Row} (h : RowsAt w Q L) (hp : ∀ p ∈ L', p ∈ L) : RowsAt w Q L' := fun p hm => h p (hp p hm)
theorem blk_ge {w : World} {Q : Nat} {t : TypeId} {v : Value} {n m : Nat} {cs : List Value} (h : Own w (Q + 1) t n v m cs) : ∀ x ∈ blk v, Q ≤ x := fun x hx => by
  have := h.ge x (by simpa [blk] using hx); omega
theorem RowsAt.slice {w : World} {Q : Nat} {L : List Row} (h : RowsAt w Q L) {i : Nat} (hi : i < L.length) : ∃ ad c r, Hp.g L i = (.slice ad r.length c, r) ∧ Rd w (.slice ad r.length c) 4 r.length (r.flatMap cl) := by
  have h1 := (h _ (Hp.g_mem hi)).1
  obtain ⟨v, r, e⟩ : ∃ v r, Hp.g L i = (v, r) := ⟨_, _, rfl⟩
  rw [e] at h1
  obtain ⟨ad, c, e2, _⟩ := h1.shape
  have e3 : v = .slice ad r.length c := e2
  subst e3
  exact ⟨ad, c, r, e, h1⟩
theorem vals_set (L : List Row) (i : Nat) (x : Row) : (vals L).set i x.1 = vals (L.set i x) := by rw [vals, vals, List.map_set]
theorem vals_sw (L : List Row) (i j : Nat) : ((vals L).set i (Hp.g L j).1).set j (Hp.g L i).1 = vals (Hp.sw L i j) := by rw [vals_set, vals_set]; rfl
/-- What the cell at a place of the queue holds. -/
theorem cellAt {w : World} {v : Value} {L : List Row} {m : Nat} (hm : L.length = m) (h : Rd w v 1 m (vals L)) {i : Nat} (hi : i < m) : ∃ b o c, v = .slice (some ⟨b, o, none⟩) m c ∧ ∀ j, j < m → w.cell? ⟨b, o + j * 1, none⟩ = some (Hp.g L j).1 := by
  subst hm
  obtain ⟨ad, c, rfl, _⟩ := h.shape
  obtain ⟨b, o, rfl⟩ := h.some_ (by omega)
  exact ⟨b, o, c, rfl, fun j hj => by rw [← Hp.g_eq hj]; exact Rd.eltIn (f := (·.1)) h hj⟩

theorem fn29 (v : Value) (L : List Row) (m : Nat) (w : World) (ha : Rd w v 1 m (vals L)) : Rets Try.prog 29 #[v] w (fun r w' => r = .int .i64 (m : Int) ∧ w' = w) := by
  obtain ⟨ad, c, rfl, _⟩ := ha.shape
  refine Rets.of (n := 5) (vs := [_]) Try.func29 rfl rfl rfl ?_
  refine TC.seq ?_
  refine TC.region ?_
  refine TL.assign rfl rfl ?_
  refine TL.done ?_
  refine Thn.go ?_
  refine TC.seq ?_
  refine TC.region ?_
  refine TL.move rfl rfl ?_
  refine TL.lenSlice Try.underlying55 rfl rfl ?_
  refine TL.assign rfl rfl ?_
  refine TL.done ?_
  refine Thn.go ?_
  refine TC.ret ?_
  refine Ends.ret [2] rfl rfl ?_
  exact ⟨rfl, rfl⟩

theorem fn67 (Q : Nat) (v : Value) (L : List Row) (m i j : Nat) (hm : L.length = m) (hi : i < m) (hj : j < m) (w : World) (ha : Rd w v 1 m (vals L)) (hr : RowsAt w Q L) (hni : (Hp.g L i).2 ≠ []) (hnj : (Hp.g L j).2 ≠ []) : Rets Try.prog 67 #[v, .int .i64 (i : Int), .int .i64 (j : Int)] w (fun r w' => r = .bool (decide (En.lt (Hp.g L i) (Hp.g L j))) ∧ Ch [] w w') := by
  obtain ⟨b, o, c, rfl, _⟩ := cellAt hm ha hi
  have hcell : ∀ k, k < m → ∀ w2, Ch [] w w2 → w2.cell? ⟨b, o + k * 1, none⟩ = some (Hp.g L k).1 := fun k hk w2 h2 => by obtain ⟨b', o', c', e, hh⟩ := cellAt hm (ha.ch0 h2) hk; cases e; exact hh k hk
  obtain ⟨ai, ci, ri, ei, hri⟩ := hr.slice (i := i) (by omega)
  obtain ⟨aj, cj, rj, ej, hrj⟩ := hr.slice (i := j) (by omega)
  rw [ei] at hni
  rw [ej] at hnj
  have hpi : 0 < ri.length := List.length_pos_iff.2 hni
  have hpj : 0 < rj.length := List.length_pos_iff.2 hnj
  obtain ⟨bi, oi, rfl, hei⟩ := recAll hri hpi
  obtain ⟨bj, oj, rfl, hej⟩ := recAll hrj hpj
  have hci := hcell i hi
  have hcj := hcell j hj
  rw [ei] at hci
  rw [ej] at hcj
  refine Rets.of (n := 20) (vs := [_, _, _]) Try.func67 rfl rfl rfl ?_
  refine TC.seq ?_
  refine TC.region ?_
  refine TL.assign rfl rfl ?_
  refine TL.done ?_
  refine Thn.go ?_
  refine TC.seq ?_
  refine TC.regionQ (fun w6 => Ch [] w w6) mixed0 (by kernel_rfl) (Ch.drew [] _) ?_
  refine TQ.via rfl rfl rfl rfl (fun w2 hw2 => TL.move rfl rfl (TL.done ⟨rfl, rfl⟩)) ?_
  refine TQ.via rfl rfl rfl rfl (fun w2 hw2 => TL.move rfl rfl (TL.done ⟨rfl, rfl⟩)) ?_
  refine TQ.via rfl rfl rfl rfl (fun w2 hw2 => TL.indexAddr (i) sl55 rfl rfl (by first | rfl | omega) (by omega) rfl (TL.done ⟨rfl, rfl⟩)) ?_
  refine TQ.via rfl rfl rfl rfl (fun w2 hw2 => TL.load pl25 rfl (hci _ hw2) rfl (TL.done ⟨rfl, rfl⟩)) ?_
  refine TQ.via rfl rfl rfl rfl (fun w2 hw2 => TL.indexAddr (0) sl25 rfl rfl rfl hpi rfl (TL.done ⟨rfl, rfl⟩)) ?_
  refine TQ.via rfl rfl rfl rfl (fun w2 hw2 => TL.loadAgg (cl (En.rec ri 0)) ag32 rfl rfl (fun q hq => hei 0 hpi _ hw2 q hq) rfl (TL.done ⟨rfl, rfl⟩)) ?_
  refine TQ.via rfl rfl rfl rfl (fun w2 hw2 => TL.move rfl rfl (TL.done ⟨rfl, rfl⟩)) ?_
  refine TQ.via rfl rfl rfl rfl (fun w2 hw2 => TL.move rfl rfl (TL.done ⟨rfl, rfl⟩)) ?_
  refine TQ.via rfl rfl rfl rfl (fun w2 hw2 => TL.indexAddr (j) sl55 rfl rfl (by first | rfl | omega) (by omega) rfl (TL.done ⟨rfl, rfl⟩)) ?_
  refine TQ.via rfl rfl rfl rfl (fun w2 hw2 => TL.load pl25 rfl (hcj _ hw2) rfl (TL.done ⟨rfl, rfl⟩)) ?_
  refine TQ.via rfl rfl rfl rfl (fun w2 hw2 => TL.indexAddr (0) sl25 rfl rfl rfl hpj rfl (TL.done ⟨rfl, rfl⟩)) ?_
  refine TQ.via rfl rfl rfl rfl (fun w2 hw2 => TL.loadAgg (cl (En.rec rj 0)) ag32 rfl rfl (fun q hq => hej 0 hpj _ hw2 q hq) rfl (TL.done ⟨rfl, rfl⟩)) ?_
  refine TQ.call (.bool (decide (En.less (En.rec ri 0) (En.rec rj 0)))) can14 rfl rfl (fun w2 hw2 => (fn14 _ _ w2).mono (fun _ _ ⟨q1, q2⟩ => ⟨q1, hw2.trans0 q2⟩)) ?_
  refine TQ.via rfl rfl rfl rfl (fun w2 hw2 => TL.assign rfl rfl (TL.done ⟨rfl, rfl⟩)) ?_
  refine TQ.done (fun w2 hw2 => ?_)
  refine Thn.go ?_
  refine TC.ret ?_
  refine Ends.ret [6] rfl rfl ?_
  exact ⟨by rw [ei, ej]; rfl, hw2⟩

theorem fn68 (Q base : Nat) (v : Value) (L : List Row) (m i j : Nat) (hm : L.length = m) (hi : i < m) (hj : j < m) (w : World) (ha : Own w base 25 1 v m (vals L)) (hr : RowsAt w Q L) : Rets Try.prog 68 #[v, .int .i64 (i : Int), .int .i64 (j : Int)] w (fun _ w' => Own w' base 25 1 v m (vals (Hp.sw L i j)) ∧ Ch (blk v) w w') := by
  obtain ⟨g, c, rfl⟩ := ha.form (by omega)
  obtain ⟨cur, hcur, hcsz, hcn, _, hgb, _⟩ := ha.has
  have hcell : ∀ k, k < m → ∀ w2, Ch [] w w2 → w2.cell? ⟨g, 0 + k * 1, none⟩ = some (Hp.g L k).1 := fun k hk w2 h2 => by obtain ⟨b', o', c', e, hh⟩ := cellAt hm ((Rd.ofOwn ha).ch0 h2) hk; cases e; exact hh k hk
  have hsw := vals_sw L i j
  obtain ⟨ai, ci, ri, ei, hri⟩ := hr.slice (i := i) (by omega)
  obtain ⟨aj, cj, rj, ej, hrj⟩ := hr.slice (i := j) (by omega)
  have hci := hcell i hi
  have hcj := hcell j hj
  rw [ei] at hci hsw
  rw [ej] at hcj hsw
  refine Rets.of (n := 20) (vs := [_, _, _]) Try.func68 rfl rfl rfl ?_
  refine TC.regionH (fun w2 => Ch [g] w w2) mixed0 ?_
  have hS : (fun w2 => Ch [g] w w2) _ := Ch.drew [g] _
  refine TH.take (i := 0) rfl rfl rfl rfl rfl (by kernel_rfl) (by kernel_rfl) (by kernel_rfl) hS (fun w2 hw2 => TL.move rfl rfl (TL.done ⟨rfl, rfl⟩)) ?_
  refine TH.take (i := 1) rfl rfl rfl rfl rfl (by kernel_rfl) (by kernel_rfl) (by kernel_rfl) hS (fun w2 hw2 => TL.move rfl rfl (TL.done ⟨rfl, rfl⟩)) ?_
  refine TH.take (i := 2) rfl rfl rfl rfl rfl (by kernel_rfl) (by kernel_rfl) (by kernel_rfl) hS (fun w2 hw2 => TL.move rfl rfl (TL.done ⟨rfl, rfl⟩)) ?_
  refine TH.take (i := 3) rfl rfl rfl rfl rfl (by kernel_rfl) (by kernel_rfl) (by kernel_rfl) hS (fun w2 hw2 => TL.move rfl rfl (TL.done ⟨rfl, rfl⟩)) ?_
  refine TH.take (i := 4) rfl rfl rfl rfl rfl (by kernel_rfl) (by kernel_rfl) (by kernel_rfl) hS (fun w2 hw2 => TL.move rfl rfl (TL.done ⟨rfl, rfl⟩)) ?_
  refine TH.take (i := 5) rfl rfl rfl rfl rfl (by kernel_rfl) (by kernel_rfl) (by kernel_rfl) hS (fun w2 hw2 => TL.move rfl rfl (TL.done ⟨rfl, rfl⟩)) ?_
  refine TH.take (i := 6) rfl rfl rfl rfl rfl (by kernel_rfl) (by kernel_rfl) (by kernel_rfl) hS (fun w2 hw2 => TL.indexAddr (j) sl55 rfl rfl (by first | rfl | omega) (by omega) rfl (TL.done ⟨rfl, rfl⟩)) ?_
  refine TH.take (i := 8) rfl rfl rfl rfl rfl (by kernel_rfl) (by kernel_rfl) (by kernel_rfl) hS (fun w2 hw2 => TL.move rfl rfl (TL.done ⟨rfl, rfl⟩)) ?_
  refine TH.take (i := 9) rfl rfl rfl rfl rfl (by kernel_rfl) (by kernel_rfl) (by kernel_rfl) hS (fun w2 hw2 => TL.move rfl rfl (TL.done ⟨rfl, rfl⟩)) ?_
  refine TH.take (i := 10) rfl rfl rfl rfl rfl (by kernel_rfl) (by kernel_rfl) (by kernel_rfl) hS (fun w2 hw2 => TL.indexAddr (i) sl55 rfl rfl (by first | rfl | omega) (by omega) rfl (TL.done ⟨rfl, rfl⟩)) ?_
  refine TH.two (i := 7) (j := 11) (by kernel_rfl) rfl rfl rfl rfl ?_ ?_
  ·
    refine TL.load pl25 rfl (hcj _ (Ch.drew [] _)) rfl ?_
    have hS : (fun w2 => Ch [g] w w2) _ := hS
    refine TL.done ⟨hS, ?_⟩
    refine TH.one (i := 11) (by kernel_rfl) rfl rfl ?_
    refine TL.load pl25 rfl (hci _ (Ch.drew [] _)) rfl ?_
    have hS : (fun w2 => Ch [g] w w2) _ := hS
    refine TL.done ⟨hS, ?_⟩
    refine TH.take (i := 12) rfl rfl rfl rfl rfl (by kernel_rfl) (by kernel_rfl) (by kernel_rfl) hS (fun w2 hw2 => TL.indexAddr (i) sl55 rfl rfl (by first | rfl | omega) (by omega) rfl (TL.done ⟨rfl, rfl⟩)) ?_
    refine TH.one (i := 13) (by kernel_rfl) rfl rfl ?_
    refine TL.store sz25 rfl rfl rfl (hcur.ch0 (Ch.drew [] _)) (by omega) (by simp [Value.cells, Value.oneCell']) (.inl rfl) (fun ws1 hbs1 hcs1 hzs1 => ?_)
    replace hbs1 : Has ws1 g (cur.setIfInBounds i (.slice aj rj.length cj)) 25 (0, 0) := by rw [Nat.zero_add, Nat.mul_one] at hbs1; exact hbs1.setOne rfl (by omega)
    have own1 := (ha.ch0 (Ch.drew [] _)).store1 (hcur.ch0 (Ch.drew [] _)) (k := i) (v := .slice aj rj.length cj) hbs1
    have hS : (fun w2 => Ch [g] w w2) _ := Ch.trans hS hcs1 (fun x h _ => h) (fun x h _ => h)
    refine TL.done ⟨hS, ?_⟩
    refine TH.take (i := 14) rfl rfl rfl rfl rfl (by kernel_rfl) (by kernel_rfl) (by kernel_rfl) hS (fun w2 hw2 => TL.indexAddr (j) sl55 rfl rfl (by first | rfl | omega) (by omega) rfl (TL.done ⟨rfl, rfl⟩)) ?_
    refine TH.one (i := 15) (by kernel_rfl) rfl rfl ?_
    refine TL.store sz25 rfl rfl rfl hbs1 (by simp; omega) (by simp [Value.cells, Value.oneCell']) (.inl rfl) (fun ws2 hbs2 hcs2 hzs2 => ?_)
    replace hbs2 : Has ws2 g ((cur.setIfInBounds i (.slice aj rj.length cj)).setIfInBounds j (.slice ai ri.length ci)) 25 (0, 0) := by rw [Nat.zero_add, Nat.mul_one] at hbs2; exact hbs2.setOne rfl (by simp; omega)
    have own2 := own1.store1 hbs1 (k := j) (v := .slice ai ri.length ci) hbs2
    have hS : (fun w2 => Ch [g] w w2) _ := Ch.trans hS hcs2 (fun x h _ => h) (fun x h _ => h)
    refine TL.done ⟨hS, ?_⟩
    refine TH.done (by kernel_rfl) ?_
    refine Ends.normal [] rfl rfl ?_
    exact ⟨by rw [← hsw]; exact own2, Ch.weaken hS (fun x h => by simpa [blk, Value.ownBlock] using h)⟩
  ·
    refine TL.load pl25 rfl (hci _ (Ch.drew [] _)) rfl ?_
    have hS : (fun w2 => Ch [g] w w2) _ := hS
    refine TL.done ⟨hS, ?_⟩
    refine TH.one (i := 7) (by kernel_rfl) rfl rfl ?_
    refine TL.load pl25 rfl (hcj _ (Ch.drew [] _)) rfl ?_
    have hS : (fun w2 => Ch [g] w w2) _ := hS
    refine TL.done ⟨hS, ?_⟩
    refine TH.take (i := 12) rfl rfl rfl rfl rfl (by kernel_rfl) (by kernel_rfl) (by kernel_rfl) hS (fun w2 hw2 => TL.indexAddr (i) sl55 rfl rfl (by first | rfl | omega) (by omega) rfl (TL.done ⟨rfl, rfl⟩)) ?_
    refine TH.one (i := 13) (by kernel_rfl) rfl rfl ?_
    refine TL.store sz25 rfl rfl rfl (hcur.ch0 (Ch.drew [] _)) (by omega) (by simp [Value.cells, Value.oneCell']) (.inl rfl) (fun ws1 hbs1 hcs1 hzs1 => ?_)
    replace hbs1 : Has ws1 g (cur.setIfInBounds i (.slice aj rj.length cj)) 25 (0, 0) := by rw [Nat.zero_add, Nat.mul_one] at hbs1; exact hbs1.setOne rfl (by omega)
    have own1 := (ha.ch0 (Ch.drew [] _)).store1 (hcur.ch0 (Ch.drew [] _)) (k := i) (v := .slice aj rj.length cj) hbs1
    have hS : (fun w2 => Ch [g] w w2) _ := Ch.trans hS hcs1 (fun x h _ => h) (fun x h _ => h)
    refine TL.done ⟨hS, ?_⟩
    refine TH.take (i := 14) rfl rfl rfl rfl rfl (by kernel_rfl) (by kernel_rfl) (by kernel_rfl) hS (fun w2 hw2 => TL.indexAddr (j) sl55 rfl rfl (by first | rfl | omega) (by omega) rfl (TL.done ⟨rfl, rfl⟩)) ?_
    refine TH.one (i := 15) (by kernel_rfl) rfl rfl ?_
    refine TL.store sz25 rfl rfl rfl hbs1 (by simp; omega) (by simp [Value.cells, Value.oneCell']) (.inl rfl) (fun ws2 hbs2 hcs2 hzs2 => ?_)
    replace hbs2 : Has ws2 g ((cur.setIfInBounds i (.slice aj rj.length cj)).setIfInBounds j (.slice ai ri.length ci)) 25 (0, 0) := by rw [Nat.zero_add, Nat.mul_one] at hbs2; exact hbs2.setOne rfl (by simp; omega)
    have own2 := own1.store1 hbs1 (k := j) (v := .slice ai ri.length ci) hbs2
    have hS : (fun w2 => Ch [g] w w2) _ := Ch.trans hS hcs2 (fun x h _ => h) (fun x h _ => h)
    refine TL.done ⟨hS, ?_⟩
    refine TH.done (by kernel_rfl) ?_
    refine Ends.normal [] rfl rfl ?_
    exact ⟨by rw [← hsw]; exact own2, Ch.weaken hS (fun x h => by simpa [blk, Value.ownBlock] using h)⟩

theorem fn69 (Q : Nat) (v : Value) (L : List Row) (m : Nat) (hm : L.length = m) (hn : 0 < m) (w : World) (hQ : Has w Q #[v] 55 (0, 0)) (ho : Own w (Q + 1) 25 1 v m (vals L)) : Rets Try.prog 69 #[.pointer (some ⟨Q, 0, none⟩)] w (fun r w' => r = .iface 25 (Hp.g L (m - 1)).1 ∧ ∃ v', Has w' Q #[v'] 55 (0, 0) ∧ Own w' (Q + 1) 25 1 v' (L.take (m - 1)).length (vals (L.take (m - 1))) ∧ v'.ownBlock = v.ownBlock ∧ Ch [Q] w w') := by
  obtain ⟨g, c, rfl⟩ := ho.form (by omega)
  have hmx := (Rd.ofOwn ho).nlt
  have hmm : maxLen = 9223372036854775807 := rfl
  have hcap := (Rd.ofOwn ho).cap
  have hgQ := ho.ge g rfl
  have hlt : (L.take (m - 1)).length = m - 1 := by rw [List.length_take]; omega
  have hcell : w.cell? ⟨g, 0 + (m - 1) * 1, none⟩ = some (Hp.g L (m - 1)).1 := by obtain ⟨b', o', c', e, hh⟩ := cellAt hm (Rd.ofOwn ho) (i := m - 1) (by omega); cases e; exact hh _ (by omega)
  refine Rets.of (n := 25) (vs := [_]) Try.func69 rfl rfl rfl ?_
  refine TC.seq ?_
  refine TC.region ?_
  refine TL.assign rfl rfl ?_
  refine TL.done ?_
  refine Thn.go ?_
  refine TC.seq ?_
  refine TC.region ?_
  refine TL.move rfl rfl ?_
  refine TL.nilCheck rfl rfl ?_
  refine TL.load pl55 rfl (hQ.cell 0) rfl ?_
  refine TL.lenSlice Try.underlying55 rfl rfl ?_
  refine TL.sub_i64 rfl rfl (by omega) (by omega) rfl ?_
  refine TL.assign rfl rfl ?_
  refine TL.done ?_
  refine Thn.go ?_
  refine TC.seq ?_
  refine TC.region ?_
  refine TL.move rfl rfl ?_
  refine TL.nilCheck rfl rfl ?_
  refine TL.load pl55 rfl (hQ.cell 0) rfl ?_
  refine TL.move rfl rfl ?_
  refine TL.indexAddr (m - 1) sl55 rfl rfl (by first | rfl | omega) (by omega) rfl ?_
  refine TL.load pl25 rfl (hcell) rfl ?_
  refine TL.assign rfl rfl ?_
  refine TL.done ?_
  refine Thn.go ?_
  refine TC.seq ?_
  refine TC.region ?_
  refine TL.move rfl rfl ?_
  refine TL.move rfl rfl ?_
  refine TL.nilCheck rfl rfl ?_
  refine TL.load pl55 rfl (hQ.cell 0) rfl ?_
  refine TL.move rfl rfl ?_
  refine TL.sliceTo (m - 1) sl55 rfl rfl (by first | rfl | omega) (by omega) rfl ?_
  refine TL.nilCheck rfl rfl ?_
  refine TL.store sz55 rfl rfl rfl hQ (by simp) (by simp [Value.cells, Value.oneCell']) (.inl rfl) (fun ws1 hbs1 hcs1 hzs1 => ?_)
  replace hbs1 : Has ws1 Q #[.slice (some ⟨g, 0, none⟩) (m - 1) c] 55 (0, 0) := hbs1
  have hown := (ho.ch hcs1 (fun k hk => by simp [Value.ownBlock] at hk; simp; omega)).to (k := m - 1) (by omega)
  refine TL.done ?_
  refine Thn.go ?_
  refine TC.seq ?_
  refine TC.region ?_
  refine TL.move rfl rfl ?_
  refine TL.mkIface Try.underlying25 rfl rfl rfl ?_
  refine TL.assign rfl rfl ?_
  refine TL.done ?_
  refine Thn.go ?_
  refine TC.ret ?_
  refine Ends.ret [2] rfl rfl ?_
  exact ⟨rfl, _, hbs1, by rw [hlt, vals, List.map_take]; rw [Nat.mul_one] at hown; exact hown, rfl, hcs1⟩

theorem fn43 (Q : Nat) (v : Value) (l : List Row) (m i0 n : Nat) (hm : l.length = m) (hl : m ≤ 100000) (hi0 : i0 ≤ n) (hn : n ≤ m) (w : World) (hQ : Has w Q #[v] 55 (0, 0)) (ho : Own w (Q + 1) 25 1 v m (vals l)) (hr : RowsAt w Q l) (hne : ∀ k, k < n → (Hp.g l k).2 ≠ []) (hd : Hp.Down En.lt l n i0 i0) : Rets Try.prog 43 #[.iface 58 (.pointer (some ⟨Q, 0, none⟩)), .int .i64 (i0 : Int), .int .i64 (n : Int)] w (fun r w' => (∃ i : Nat, r = .bool (decide ((i : Int) > (i0 : Int)))) ∧ ∃ L : List Row, L.length = m ∧ L.Perm l ∧ (∀ k, n ≤ k → Hp.g L k = Hp.g l k) ∧ Hp.Heap En.lt L n i0 ∧ Own w' (Q + 1) 25 1 v m (vals L) ∧ Ch (blk v) w w') := by
  have hnb : Q ∉ blk v := ho.notin (by omega)
  have hge := blk_ge ho
  refine Rets.of (n := 48) (vs := [_, _, _]) Try.func43 rfl rfl rfl ?_
  refine TC.seq ?_
  refine TC.region ?_
  refine TL.assign rfl rfl ?_
  refine TL.done ?_
  refine Thn.go ?_
  refine TC.seq ?_
  refine TC.region ?_
  refine TL.move rfl rfl ?_
  refine TL.assign rfl rfl ?_
  refine TL.done ?_
  refine Thn.go ?_
  refine TC.seq ?_
  refine TC.block ?_
  refine TC.loop1 (fun (i : Nat) => [(0, .iface 58 (.pointer (some ⟨Q, 0, none⟩))), (1, .int .i64 (i0 : Int)), (2, .int .i64 (n : Int)), (7, .int .i64 (i : Int))]) (fun i w' => i0 ≤ i ∧ i ≤ n ∧ (∃ L : List Row, L.length = m ∧ L.Perm l ∧ (∀ k, n ≤ k → Hp.g L k = Hp.g l k) ∧ (∀ k, k < n → (Hp.g L k).2 ≠ []) ∧ Hp.Down En.lt L n i0 i ∧ Own w' (Q + 1) 25 1 v m (vals L)) ∧ Ch (blk v) w w') (fun i => n - i) i0 (by repeat (first | exact trivial | refine ⟨rfl, ?_⟩)) (⟨Nat.le_refl _, hi0, ⟨l, hm, List.Perm.refl _, fun _ _ => rfl, hne, hd, ho⟩, Ch.refl _ _⟩) (fun i w' hHH => ?_)
  obtain ⟨hi1, hi2, ⟨L, hL, hp, hk, hne, hd, ho⟩, hch⟩ := hHH
  refine TC.block ?_
  refine TC.seq ?_
  refine TC.region ?_
  refine TL.move rfl rfl ?_
  refine TL.mul_i64 rfl rfl (by omega) (by omega) rfl ?_
  refine TL.add_i64 rfl rfl (by omega) (by omega) rfl ?_
  refine TL.assign rfl rfl ?_
  refine TL.done ?_
  refine Thn.go ?_
  refine TC.seq ?_
  refine TC.regionBool (d := 21) (p := (n ≤ 2 * i + 1)) (fun K1 hK1 => ?_) ?_
  ·
    refine TL.move rfl rfl ?_
    refine TL.move rfl rfl ?_
    refine TL.geq rfl rfl rfl ?_
    refine TL.em (fun e17 => ?_) (fun e17 => ?_)
    ·
      refine TL.move rfl rfl ?_
      refine TL.guardNo (d := 18) rfl rfl rfl rfl rfl ?_
      refine TL.guardNo (d := 18) rfl rfl rfl rfl rfl ?_
      refine TL.pickT rfl rfl rfl rfl ?_
      refine TL.done ?_
      refine hK1 _ ?_
      refine Le.here rfl (by first | exact decide_eq_true (by omega) | exact decide_eq_false (by omega) | exact decide_eq_decide.2 (by omega) | exact decide_eq_true (by grind) | exact decide_eq_false (by grind) | exact decide_eq_decide.2 (by grind)) ?_
      repeat (first | exact Le.refl _ | refine Le.skip rfl ?_)
    ·
      refine TL.move rfl rfl ?_
      refine TL.guardYes (d := 18) rfl rfl rfl ?_
      refine TL.move rfl rfl ?_
      refine TL.guardYes (d := 18) rfl rfl rfl ?_
      refine TL.lss rfl rfl rfl ?_
      refine TL.pickF rfl rfl rfl rfl ?_
      refine TL.done ?_
      refine hK1 _ ?_
      refine Le.here rfl (by first | exact decide_eq_true (by omega) | exact decide_eq_false (by omega) | exact decide_eq_decide.2 (by omega) | exact decide_eq_true (by grind) | exact decide_eq_false (by grind) | exact decide_eq_decide.2 (by grind)) ?_
      repeat (first | exact Le.refl _ | refine Le.skip rfl ?_)
  refine TC.condP rfl (fun h3 => ?_) (fun h3 => ?_)
  ·
    refine TC.exit ?_
    refine Thn.exit ?_
    refine Blk.miss rfl ?_
    refine Lp.exit ?_
    refine Blk.hit ?_
    refine Thn.go ?_
    refine TC.seq ?_
    refine TC.region ?_
    refine TL.move rfl rfl ?_
    refine TL.move rfl rfl ?_
    refine TL.gtr rfl rfl rfl ?_
    refine TL.assign rfl rfl ?_
    refine TL.done ?_
    refine Thn.go ?_
    refine TC.ret ?_
    refine Ends.ret [6] rfl rfl ?_
    exact ⟨⟨_, rfl⟩, L, hL, hp, hk, hd.leaf (by omega), ho, hch⟩
  ·
    have hin : 2 * i + 1 < n := by omega
    have hrd := Rd.ofOwn ho
    have hQw := hQ.ch hch hnb
    have hrw := (hr.ch hch hge).perm hp
    refine TC.skip ?_
    refine Thn.go ?_
    refine TC.seq ?_
    refine TC.region ?_
    refine TL.move rfl rfl ?_
    refine TL.assign rfl rfl ?_
    refine TL.done ?_
    refine Thn.go ?_
    refine TC.cut1 (fun (j : Nat) => [(0, .iface 58 (.pointer (some ⟨Q, 0, none⟩))), (1, .int .i64 (i0 : Int)), (2, .int .i64 (n : Int)), (7, .int .i64 (i : Int)), (9, .int .i64 (j : Int))]) (fun j w3 => Hp.Child En.lt L n i j ∧ j < n ∧ Ch [] w' w3) (fun K4 hK4 => ?_) (fun j w3 hM => ?_)
    ·
      refine TC.seq ?_
      refine TC.region ?_
      refine TL.move rfl rfl ?_
      refine TL.add_i64 rfl rfl (by omega) (by omega) rfl ?_
      refine TL.assign rfl rfl ?_
      refine TL.done ?_
      refine Thn.go ?_
      refine TC.cut0 ([(0, .iface 58 (.pointer (some ⟨Q, 0, none⟩))), (1, .int .i64 (i0 : Int)), (2, .int .i64 (n : Int)), (7, .int .i64 (i : Int)), (9, .int .i64 (2 * (i : Int) + 1)), (10, .int .i64 (2 * (i : Int) + 1 + 1)), (33, .bool (decide (2 * i + 2 < n ∧ En.lt (Hp.g L (2 * i + 2)) (Hp.g L (2 * i + 1)))))]) (fun w2 => Ch [] w' w2) (fun K5 hK5 => ?_) (fun w2 hH6 => ?_)
      ·
        refine TC.region ?_
        refine TL.move rfl rfl ?_
        refine TL.move rfl rfl ?_
        refine TL.lss rfl rfl rfl ?_
        refine TL.em (fun e27 => ?_) (fun e27 => ?_)
        ·
          refine TL.move rfl rfl ?_
          refine TL.guardYes (d := 28) rfl rfl rfl ?_
          refine TL.move rfl rfl ?_
          refine TL.guardYes (d := 28) rfl rfl rfl ?_
          refine TL.move rfl rfl ?_
          refine TL.guardYes (d := 28) rfl rfl rfl ?_
          refine TL.move rfl rfl ?_
          refine TL.guardYes (d := 28) rfl rfl rfl ?_
          refine TL.invokeV can67 Try.underlying58 mtLess rfl pl55 (hQw.cell 0) rfl rfl (fn67 Q v L m (2 * i + 2) (2 * i + 1) hL (by omega) (by omega) w' hrd hrw (hne _ (by omega)) (hne _ (by omega))) (fun v32 w32 hr32 => ?_)
          obtain ⟨rfl, hc32⟩ := hr32
          refine TL.pickT rfl rfl rfl rfl ?_
          refine TL.done ?_
          exact hK5  _ _ (by repeat (first | exact trivial | refine ⟨rfl, ?_⟩ | refine ⟨congrArg (fun b => some (Value.bool b)) (by first | exact (decide_eq_true (by grind)).symm | exact (decide_eq_false (by grind)).symm | exact decide_eq_decide.2 (by grind) | exact decide_eq_true (by grind) | exact decide_eq_false (by grind) | (exfalso; grind)), ?_⟩)) (hc32)
        ·
          refine TL.move rfl rfl ?_
          refine TL.guardNo (d := 28) rfl rfl rfl rfl rfl ?_
          refine TL.guardNo (d := 28) rfl rfl rfl rfl rfl ?_
          refine TL.guardNo (d := 28) rfl rfl rfl rfl rfl ?_
          refine TL.guardNo (d := 28) rfl rfl rfl rfl rfl ?_
          refine TL.pickF rfl rfl rfl rfl ?_
          refine TL.done ?_
          exact hK5  _ _ (by repeat (first | exact trivial | refine ⟨rfl, ?_⟩ | refine ⟨congrArg (fun b => some (Value.bool b)) (by first | exact (decide_eq_true (by grind)).symm | exact (decide_eq_false (by grind)).symm | exact decide_eq_decide.2 (by grind) | exact decide_eq_true (by grind) | exact decide_eq_false (by grind) | (exfalso; grind)), ?_⟩)) (Ch.refl _ _)
      ·
        refine TC.condP rfl (fun h7 => ?_) (fun h7 => ?_)
        ·
          have h33 : 2 * i + 2 < n ∧ En.lt (Hp.g L (2 * i + 2)) (Hp.g L (2 * i + 1)) := by assumption
          refine TC.region ?_
          refine TL.move rfl rfl ?_
          refine TL.assign rfl rfl ?_
          refine TL.done ?_
          exact hK4 (2 * i + 2) _ _ (by repeat (first | exact trivial | refine ⟨rfl, ?_⟩ | refine ⟨congrArg (fun b => some (Value.bool b)) (by first | exact (decide_eq_true (by grind)).symm | exact (decide_eq_false (by grind)).symm | exact decide_eq_decide.2 (by grind) | exact decide_eq_true (by grind) | exact decide_eq_false (by grind) | (exfalso; grind)), ?_⟩)) (⟨.inr ⟨rfl, h33.2⟩, h33.1, hH6⟩)
        ·
          have h33 : ¬ (2 * i + 2 < n ∧ En.lt (Hp.g L (2 * i + 2)) (Hp.g L (2 * i + 1))) := by assumption
          refine TC.skip ?_
          exact hK4 (2 * i + 1) _ _ (by repeat (first | exact trivial | refine ⟨rfl, ?_⟩ | refine ⟨congrArg (fun b => some (Value.bool b)) (by first | exact (decide_eq_true (by grind)).symm | exact (decide_eq_false (by grind)).symm | exact decide_eq_decide.2 (by grind) | exact decide_eq_true (by grind) | exact decide_eq_false (by grind) | (exfalso; grind)), ?_⟩)) (⟨.inl ⟨rfl, fun h => fun h' => h33 ⟨h, h'⟩⟩, hin, hH6⟩)
    ·
      obtain ⟨hc, hjn, hM6⟩ := hM
      refine TC.seq ?_
      refine TC.seq ?_
      refine TC.region ?_
      refine TL.move rfl rfl ?_
      refine TL.move rfl rfl ?_
      refine TL.move rfl rfl ?_
      refine TL.invokeV can67 Try.underlying58 mtLess rfl pl55 ((hQw.ch0 hM6).cell 0) rfl rfl (fn67 Q v L m j i hL (by omega) (by omega) w3 (hrd.ch0 hM6) (hrw.ch0 hM6) (hne _ (by omega)) (hne _ (by omega))) (fun v38 w38 hr38 => ?_)
      obtain ⟨rfl, hc38⟩ := hr38
      have q38 : Ch (blk v) w w38 := (hch.trans (hM6.trans0 hc38) (fun x h _ => h) (by simp))
      refine TL.notP rfl rfl ?_
      refine TL.done ?_
      refine Thn.go ?_
      refine TC.condP rfl (fun h8 => ?_) (fun h8 => ?_)
      ·
        refine TC.exit ?_
        refine Thn.exit ?_
        refine Blk.miss rfl ?_
        refine Lp.exit ?_
        refine Blk.hit ?_
        refine Thn.go ?_
        refine TC.seq ?_
        refine TC.region ?_
        refine TL.move rfl rfl ?_
        refine TL.move rfl rfl ?_
        refine TL.gtr rfl rfl rfl ?_
        refine TL.assign rfl rfl ?_
        refine TL.done ?_
        refine Thn.go ?_
        refine TC.ret ?_
        refine Ends.ret [6] rfl rfl ?_
        exact ⟨⟨_, rfl⟩, L, hL, hp, hk, hd.stop En.ordR hc (by assumption), (ho.ch0 hM6).ch0 hc38, q38⟩
      ·
        have hlt : En.lt (Hp.g L j) (Hp.g L i) := Decidable.not_not.1 (by assumption)
        refine TC.skip ?_
        refine Thn.go ?_
        refine TC.seq ?_
        refine TC.region ?_
        refine TL.move rfl rfl ?_
        refine TL.move rfl rfl ?_
        refine TL.move rfl rfl ?_
        refine TL.invokeV can68 Try.underlying58 mtSwap rfl pl55 (((hQw.ch0 hM6).ch0 hc38).cell 0) rfl rfl (fn68 Q (Q + 1) v L m i j hL (by omega) (by omega) w38 ((ho.ch0 hM6).ch0 hc38) ((hrw.ch0 hM6).ch0 hc38)) (fun v43 w43 hr43 => ?_)
        obtain ⟨ho43, hc43⟩ := hr43
        have hij : i < j := by rcases hc with ⟨rfl, _⟩ | ⟨rfl, _⟩ <;> omega
        refine TL.done ?_
        refine Thn.go ?_
        refine TC.region ?_
        refine TL.move rfl rfl ?_
        refine TL.assign rfl rfl ?_
        refine TL.done ?_
        refine Blk.go ?_
        refine Lp.go (j) (by repeat (first | exact trivial | refine ⟨rfl, ?_⟩)) ?_ (by first | omega | (dsimp only; omega))
        refine ⟨by omega, by omega, ⟨Hp.sw L i j, by rw [Hp.len_sw, hL], (Hp.perm_sw (by omega) (by omega)).trans hp, fun k h => ?_, fun k h => ?_, hd.next En.ordR (by omega) hjn hi1 hc hlt, ho43⟩, q38.trans hc43 (fun x h _ => h) (fun x h _ => h)⟩
        · rw [Hp.g_sw (by omega) (by omega), if_neg (by omega), if_neg (by omega)]; exact hk k h
        · rw [Hp.g_sw (by omega) (by omega)]
          split
          · exact hne i (by omega)
          · split
            · exact hne j (by omega)
            · exact hne k h

theorem fn48 (h : Value) (w : World) : Rets Try.prog 48 #[h, .int .i64 0] w (fun _ w' => w' = w) := by
  refine Rets.of (n := 23) (vs := [_, _]) Try.func48 rfl rfl rfl ?_
  refine TC.block ?_
  refine TC.loop1 (fun (_ : Nat) => [(0, h), (1, .int .i64 0)]) (fun _ w' => w' = w) (fun j => j) 0 (by repeat (first | exact trivial | refine ⟨rfl, ?_⟩)) (rfl) (fun j w' hHH => ?_)
  subst hHH
  refine TC.block ?_
  refine TC.seq ?_
  refine TC.region ?_
  refine TL.move rfl rfl ?_
  refine TL.sub_i64 rfl rfl (by omega) (by omega) rfl ?_
  refine TL.quoT_i64 rfl rfl (by omega) (by omega) (by decide) rfl ?_
  refine TL.assign rfl rfl ?_
  refine TL.done ?_
  refine Thn.go ?_
  refine TC.seq ?_
  refine TC.seq ?_
  refine TC.region ?_
  refine TL.move rfl rfl ?_
  refine TL.move rfl rfl ?_
  refine TL.eql rfl rfl rfl ?_
  refine TL.yes (by decide) ?_
  refine TL.move rfl rfl ?_
  refine TL.guardNo (d := 11) rfl rfl rfl rfl rfl ?_
  refine TL.guardNo (d := 11) rfl rfl rfl rfl rfl ?_
  refine TL.guardNo (d := 11) rfl rfl rfl rfl rfl ?_
  refine TL.guardNo (d := 11) rfl rfl rfl rfl rfl ?_
  refine TL.guardNo (d := 11) rfl rfl rfl rfl rfl ?_
  refine TL.pickT rfl rfl rfl rfl ?_
  refine TL.done ?_
  refine Thn.go ?_
  refine TC.condT rfl rfl ?_
  refine TC.exit ?_
  refine Thn.exit ?_
  refine Blk.miss rfl ?_
  refine Lp.exit ?_
  refine Blk.hit ?_
  refine Ends.normal [] rfl rfl ?_
  exact rfl

theorem fn44 (Q : Nat) (v : Value) (l : List Row) (m : Nat) (hm : l.length = m) (hl : m ≤ 100000) (hn : 0 < m) (w : World) (hQ : Has w Q #[v] 55 (0, 0)) (ho : Own w (Q + 1) 25 1 v m (vals l)) (hr : RowsAt w Q l) (hne : ∀ k, 0 < k → k < m → (Hp.g l k).2 ≠ []) (hd : Hp.Down En.lt l m 0 0) : Rets Try.prog 44 #[.iface 58 (.pointer (some ⟨Q, 0, none⟩))] w (fun _ w' => ∃ (v' : Value) (L : List Row), Has w' Q #[v'] 55 (0, 0) ∧ Own w' (Q + 1) 25 1 v' L.length (vals L) ∧ v'.ownBlock = v.ownBlock ∧ l.Perm (Hp.g l 0 :: L) ∧ Hp.Heap En.lt L L.length 0 ∧ Ch (Q :: blk v) w w') := by
  have hnb : Q ∉ blk v := ho.notin (by omega)
  have hge := blk_ge ho
  have hmm : maxLen = 9223372036854775807 := rfl
  have hrd := Rd.ofOwn ho
  refine Rets.of (n := 15) (vs := [_]) Try.func44 rfl rfl rfl ?_
  refine TC.seq ?_
  refine TC.region ?_
  refine TL.assign rfl rfl ?_
  refine TL.done ?_
  refine Thn.go ?_
  refine TC.seq ?_
  refine TC.region ?_
  refine TL.move rfl rfl ?_
  refine TL.invokeV can29 Try.underlying58 mtLen rfl pl55 (hQ.cell 0) rfl rfl (fn29 v l m w hrd) (fun v5 w5 hr5 => ?_)
  obtain ⟨rfl, rfl⟩ := hr5
  refine TL.sub_i64 rfl rfl (by omega) (by omega) rfl ?_
  rw [show ((m : Int) - 1) = ((m - 1 : Nat) : Int) by omega]
  refine TL.assign rfl rfl ?_
  refine TL.done ?_
  refine Thn.go ?_
  refine TC.seq ?_
  refine TC.region ?_
  refine TL.move rfl rfl ?_
  refine TL.move rfl rfl ?_
  refine TL.invokeV (vs := [.int .i64 ((0 : Nat) : Int), .int .i64 ((m - 1 : Nat) : Int)]) can68 Try.underlying58 mtSwap rfl pl55 (hQ.cell 0) rfl rfl (fn68 Q (Q + 1) v l m 0 (m - 1) hm hn (by omega) w5 ho hr) (fun v9 w9 hr9 => ?_)
  obtain ⟨ho9, hc9⟩ := hr9
  have hp9 : (Hp.sw l 0 (m - 1)).Perm l := Hp.perm_sw (by omega) (by omega)
  refine TL.done ?_
  refine Thn.go ?_
  refine TC.seq ?_
  refine TC.region ?_
  refine TL.move rfl rfl ?_
  refine TL.move rfl rfl ?_
  refine TL.call (vs := [.iface 58 (.pointer (some ⟨Q, 0, none⟩)), .int .i64 ((0 : Nat) : Int), .int .i64 ((m - 1 : Nat) : Int)]) can43 rfl rfl (fn43 Q v (Hp.sw l 0 (m - 1)) m 0 (m - 1) (by rw [Hp.len_sw, hm]) hl (by omega) (by omega) w9 (hQ.ch hc9 hnb) ho9 ((hr.ch hc9 hge).perm hp9) (fun k hk => by rw [Hp.g_sw (by omega) (by omega), if_neg (by omega)]; split; exact hne _ (by omega) (by omega); exact hne _ (by omega) (by omega)) (Hp.Down.pop (n := m - 1) (by rw [show m - 1 + 1 = m by omega]; exact hd) (by omega))) (fun v12 w12 hr12 => ?_)
  obtain ⟨_, L, hL, hpm, hk, hh, ho12, hc12⟩ := hr12
  have q12 : Ch (blk v) w5 w12 := hc9.trans hc12 (fun x h _ => h) (fun x h _ => h)
  have hlast : Hp.g L (m - 1) = Hp.g l 0 := by rw [hk _ (Nat.le_refl _), Hp.g_sw (by omega) (by omega), if_pos rfl]
  refine TL.done ?_
  refine Thn.go ?_
  refine TC.seq ?_
  refine TC.region ?_
  refine TL.move rfl rfl ?_
  refine TL.invokeP can69 Try.underlying58 mtPop rfl rfl rfl (fn69 Q v L m hL hn w12 (hQ.ch q12 hnb) ho12) (fun v14 w14 hr14 => ?_)
  obtain ⟨rfl, v', hQ14, ho14, hb14, hc14⟩ := hr14
  have hsplit : L = L.take (m - 1) ++ [Hp.g l 0] := by rw [← hlast, ← Hp.take_snoc (by omega), show m - 1 + 1 = L.length by omega, List.take_length]
  have hlt : (L.take (m - 1)).length = m - 1 := by rw [List.length_take]; omega
  have hfin : l.Perm (Hp.g l 0 :: L.take (m - 1)) := by
    refine (hpm.trans hp9).symm.trans ?_
    conv => lhs; rw [hsplit]
    exact List.perm_append_singleton _ _
  refine TL.assign rfl rfl ?_
  refine TL.done ?_
  refine Thn.go ?_
  refine TC.ret ?_
  refine Ends.ret [2] rfl rfl ?_
  exact ⟨v', L.take (m - 1), hQ14, ho14, hb14, hfin, by rw [hlt]; exact hh.take, q12.trans hc14 (fun x h _ => List.mem_cons_of_mem _ h) (fun x h _ => by simp at h; simp [h])⟩

theorem fn45 (Q : Nat) (v : Value) (l : List Row) (m : Nat) (hm : l.length = m) (hl : m ≤ 100000) (w : World) (hQ : Has w Q #[v] 55 (0, 0)) (ho : Own w (Q + 1) 25 1 v m (vals l)) (hr : RowsAt w Q l) (hne : ∀ k, k < m → (Hp.g l k).2 ≠ []) (hd : Hp.Down En.lt l m 0 0) : Rets Try.prog 45 #[.iface 58 (.pointer (some ⟨Q, 0, none⟩)), .int .i64 0] w (fun _ w' => ∃ L : List Row, L.length = m ∧ L.Perm l ∧ Hp.Heap En.lt L m 0 ∧ Own w' (Q + 1) 25 1 v m (vals L) ∧ Ch (blk v) w w') := by
  refine Rets.of (n := 13) (vs := [_, _]) Try.func45 rfl rfl rfl ?_
  refine TC.seq ?_
  refine TC.region ?_
  refine TL.move rfl rfl ?_
  refine TL.move rfl rfl ?_
  refine TL.move rfl rfl ?_
  refine TL.invokeV can29 Try.underlying58 mtLen rfl pl55 (hQ.cell 0) rfl rfl (fn29 v l m w (Rd.ofOwn ho)) (fun v7 w7 hr7 => ?_)
  obtain ⟨rfl, rfl⟩ := hr7
  refine TL.call (vs := [.iface 58 (.pointer (some ⟨Q, 0, none⟩)), .int .i64 ((0 : Nat) : Int), .int .i64 ((m : Nat) : Int)]) can43 rfl rfl (fn43 Q v l m 0 m hm hl (by omega) (by omega) w7 hQ ho hr hne hd) (fun v8 w8 hr8 => ?_)
  obtain ⟨⟨_, rfl⟩, L, hL, hpm, _, hh, ho8, hc8⟩ := hr8
  refine TL.notP rfl rfl ?_
  refine TL.done ?_
  refine Thn.go ?_
  refine TC.condP rfl (fun h1 => ?_) (fun h1 => ?_)
  ·
    refine TC.region ?_
    refine TL.move rfl rfl ?_
    refine TL.move rfl rfl ?_
    refine TL.call can48 rfl rfl (fn48 _ w8) (fun v12 w12 hr12 => ?_)
    subst hr12
    refine TL.done ?_
    refine Ends.normal [] rfl rfl ?_
    exact ⟨L, hL, hpm, hh, ho8, hc8⟩
  ·
    refine TC.skip ?_
    refine Ends.normal [] rfl rfl ?_
    exact ⟨L, hL, hpm, hh, ho8, hc8⟩

theorem fn28 (Q : Nat) (v : Value) (l : List Row) (m : Nat) (hm : l.length = m) (hl : m ≤ 100000) (w : World) (hQ : Has w Q #[v] 55 (0, 0)) (ho : Own w (Q + 1) 25 1 v m (vals l)) (hr : RowsAt w Q l) (hne : ∀ p ∈ l, p.2 ≠ []) : Rets Try.prog 28 #[.iface 58 (.pointer (some ⟨Q, 0, none⟩))] w (fun _ w' => ∃ L : List Row, L.length = m ∧ L.Perm l ∧ Hp.Heap En.lt L m 0 ∧ Own w' (Q + 1) 25 1 v m (vals L) ∧ Ch (blk v) w w') := by
  have hnb : Q ∉ blk v := ho.notin (by omega)
  have hge := blk_ge ho
  refine Rets.of (n := 17) (vs := [_]) Try.func28 rfl rfl rfl ?_
  refine TC.seq ?_
  refine TC.region ?_
  refine TL.move rfl rfl ?_
  refine TL.invokeV can29 Try.underlying58 mtLen rfl pl55 (hQ.cell 0) rfl rfl (fn29 v l m w (Rd.ofOwn ho)) (fun v5 w5 hr5 => ?_)
  obtain ⟨rfl, rfl⟩ := hr5
  refine TL.assign rfl rfl ?_
  refine TL.done ?_
  refine Thn.go ?_
  refine TC.seq ?_
  refine TC.region ?_
  refine TL.move rfl rfl ?_
  refine TL.quo_i64 rfl rfl (by omega) (by omega) (by decide) rfl ?_
  refine TL.sub_i64 rfl rfl (by omega) (by omega) rfl ?_
  refine TL.assign rfl rfl ?_
  refine TL.done ?_
  refine Thn.go ?_
  refine TC.block ?_
  refine TC.loop1 (fun (k : Nat) => [(0, .iface 58 (.pointer (some ⟨Q, 0, none⟩))), (2, .int .i64 (m : Int)), (3, .int .i64 ((k : Int) - 1))]) (fun k w' => k ≤ m ∧ (∃ L : List Row, L.length = m ∧ L.Perm l ∧ Hp.Heap En.lt L m k ∧ Own w' (Q + 1) 25 1 v m (vals L)) ∧ Ch (blk v) w5 w') (fun k => k) (m / 2) (by repeat (first | exact trivial | refine ⟨rfl, ?_⟩)) (⟨by omega, ⟨l, hm, List.Perm.refl _, Hp.Heap.leaves l m, ho⟩, Ch.refl _ _⟩) (fun k w' hHH => ?_)
  obtain ⟨hkm, ⟨L, hL, hp, hh, ho⟩, hch⟩ := hHH
  refine TC.seq ?_
  refine TC.seq ?_
  refine TC.region ?_
  refine TL.move rfl rfl ?_
  refine TL.geq rfl rfl rfl ?_
  refine TL.done ?_
  refine Thn.go ?_
  refine TC.condP rfl (fun h1 => ?_) (fun h1 => ?_)
  ·
    obtain ⟨j, rfl⟩ : ∃ j, k = j + 1 := ⟨k - 1, by omega⟩
    have hne2 : ∀ q, q < m → (Hp.g L q).2 ≠ [] := fun q hq => hne _ (hp.mem_iff.1 (Hp.g_mem (by omega)))
    refine TC.skip ?_
    refine Thn.go ?_
    refine TC.seq ?_
    refine TC.block ?_
    refine TC.region ?_
    refine TL.move rfl rfl ?_
    refine TL.move rfl rfl ?_
    refine TL.move rfl rfl ?_
    refine TL.call (vs := [.iface 58 (.pointer (some ⟨Q, 0, none⟩)), .int .i64 (((j + 1 : Nat) : Int) - 1), .int .i64 ((m : Nat) : Int)]) can43 rfl rfl (by rw [show ((j + 1 : Nat) : Int) - 1 = (j : Int) by omega]; exact fn43 Q v L m j m hL hl (by omega) (by omega) w' (hQ.ch hch hnb) ho ((hr.ch hch hge).perm hp) hne2 hh.start') (fun v16 w16 hr16 => ?_)
    obtain ⟨_, L2, hL2, hp2, _, hh2, ho2, hc16⟩ := hr16
    refine TL.done ?_
    refine Blk.go ?_
    refine Thn.go ?_
    refine TC.region ?_
    refine TL.move rfl rfl ?_
    refine TL.sub_i64 rfl rfl (by omega) (by omega) rfl ?_
    rw [show ((j + 1 : Nat) : Int) - 1 - 1 = (j : Int) - 1 by omega]
    refine TL.assign rfl rfl ?_
    refine TL.done ?_
    refine Lp.go (j) (by repeat (first | exact trivial | refine ⟨rfl, ?_⟩)) ?_ (by first | omega | (dsimp only; omega))
    exact ⟨by omega, ⟨L2, hL2, hp2.trans hp, hh2, ho2⟩, hch.trans hc16 (fun x h _ => h) (fun x h _ => h)⟩
  ·
    have hk0 : k = 0 := by omega
    subst hk0
    refine TC.exit ?_
    refine Thn.exit ?_
    refine Lp.exit ?_
    refine Blk.hit ?_
    refine Ends.normal [] rfl rfl ?_
    exact ⟨L, hL, hp, hh, ho, hch⟩

