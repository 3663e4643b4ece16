/-
  Walks through the given program: each theorem fnN says what the call of function N of the translation hands back, for all arguments that its premises describe, and that nothing that was there has turned.
-/
import Derived.Test.YtilnoklpikblgaaE4
namespace Go.Proofs.Ytilnoklpikblgaa
open Go.Lane
theorem can44 : Callable Try.prog 44 := ⟨Try.f44, Try.func44, by kernel_rfl, rfl⟩
theorem can45 : Callable Try.prog 45 := ⟨Try.f45, Try.func45, by kernel_rfl, rfl⟩
theorem set_zero {L : List Row} (h : 0 < L.length) (x : Row) : L.set 0 x = x :: L.drop 1 := by
  match L, h with
  | _ :: _, _ => rfl
theorem g_cons (x : Row) (L : List Row) : Hp.g (x :: L) 0 = x := rfl
/-- What one taking leaves. -/
def Taken (w w' : World) (Q : Nat) (v v' : Value) (L : List Row) : Prop :=
  ∃ L' : List Row, Has w' Q #[v'] 55 (0, 0) ∧ Own w' (Q + 1) 25 1 v' L'.length (vals L') ∧ RowsAt w' Q L' ∧ Hp.Heap En.lt L' L'.length 0 ∧ v'.ownBlock = v.ownBlock ∧ (L'.Perm (L.drop 1) ∧ (Hp.g L 0).2.drop 1 = [] ∨ ∃ b, L'.Perm ((b, (Hp.g L 0).2.drop 1) :: L.drop 1) ∧ (Hp.g L 0).2.drop 1 ≠ []) ∧ Ch (Q :: blk v) w w'

theorem fn30 (Q : Nat) (v : Value) (L : List Row) (m : Nat) (hm : L.length = m) (hl : m ≤ 100000) (hpos : 0 < m) (w : World) (hQ : Has w Q #[v] 55 (0, 0)) (ho : Own w (Q + 1) 25 1 v m (vals L)) (hr : RowsAt w Q L) (hne : ∀ p ∈ L, p.2 ≠ []) (hh : Hp.Heap En.lt L m 0) : Rets Try.prog 30 #[.pointer (some ⟨Q, 0, none⟩)] w (fun r w' => r = .agg (cl (En.rec (Hp.g L 0).2 0)).toArray ∧ ∃ v', Taken w w' Q v v' L) := by
  have hge := blk_ge ho
  obtain ⟨g, c, rfl⟩ := ho.form hpos
  obtain ⟨cur, hcur, hcsz, hcn, _, hgb, _⟩ := ho.has
  have hQl := hQ.lt
  have hgl := hcur.lt
  have hmm : maxLen = 9223372036854775807 := rfl
  have hcell : ∀ w2, Ch [] w w2 → w2.cell? ⟨g, 0 + 0 * 1, none⟩ = some (Hp.g L 0).1 := fun w2 h2 => by obtain ⟨b', o', c', e, hh⟩ := cellAt hm ((Rd.ofOwn ho).ch0 h2) hpos; cases e; exact hh 0 hpos
  obtain ⟨a0, c0, r0, er, hr0⟩ := hr.slice (i := 0) (by omega)
  have hn0 : r0 ≠ [] := by have := hne _ (Hp.g_mem (l := L) (i := 0) (by omega)); rw [er] at this; exact this
  have hp0 : 0 < r0.length := List.length_pos_iff.2 hn0
  have hblk0 : ∀ k, (Value.slice a0 r0.length c0).ownBlock = some k → k < Q := by have := (hr _ (Hp.g_mem (l := L) (i := 0) (by omega))).2; rw [er] at this; exact this
  obtain ⟨b0, o0, rfl, hall⟩ := recAll hr0 hp0
  rw [er] at hcell
  have hcut := suffixRd hr0 (i := 1) (by omega)
  have hL1 := set_zero (L := L) (by omega) (.slice (adv (some ⟨b0, o0, none⟩) c0 1 4) (r0.length - 1) (c0 - 1), r0.drop 1)
  have hvs := vals_set L 0 (.slice (adv (some ⟨b0, o0, none⟩) c0 1 4) (r0.length - 1) (c0 - 1), r0.drop 1)
  refine Rets.of (n := 35) (vs := [_]) Try.func30 rfl rfl rfl ?_
  refine TC.seq ?_
  refine TC.region ?_
  refine TL.alloc ze32 rfl (fun w2 hb2 hc2 hz2 => ?_)
  refine TL.done ?_
  refine Thn.go ?_
  refine TC.seq ?_
  refine TC.region ?_
  refine TL.move rfl rfl ?_
  refine TL.nilCheck rfl rfl ?_
  refine TL.load pl55 rfl ((hQ.ch0 hc2).cell 0) rfl ?_
  refine TL.indexAddr (0) sl55 rfl rfl rfl hpos rfl ?_
  refine TL.load pl25 rfl (hcell _ hc2) rfl ?_
  refine TL.indexAddr (0) sl25 rfl rfl rfl hp0 rfl ?_
  refine TL.loadAgg (cl (En.rec r0 0)) ag32 rfl rfl (fun q hq => hall 0 hp0 _ hc2 q hq) rfl ?_
  refine TL.alloc ze32 rfl (fun w3 hb3 hc3 hz3 => ?_)
  refine TL.store sz32 rfl rfl rfl hb3 (by simp [Value.cells]) (by simpa [Value.cells] using cl_one (En.rec r0 0)) (.inl rfl) (fun ws1 hbs1 hcs1 hzs1 => ?_)
  replace hbs1 : Has ws1 w2.heap.size (cl (En.rec r0 0)).toArray 32 (0, 0) := hbs1.setAll rfl
  have q1 : Ch [] w ws1 := hc2.trans0 (hc3.then1 hcs1 (Nat.le_refl _))
  have hb2s : Has ws1 w.heap.size _ 32 (0, 0) := hb2.ch0 (hc3.then1 hcs1 (Nat.le_refl _))
  have qd : Ch [] w ws1.drew := q1.trans0 (Ch.drew [] _)
  refine TL.done ?_
  refine Thn.go ?_
  refine TC.cut1 (fun (_ : Value) => [(2, .pointer (some ⟨w.heap.size, 0, none⟩)), (3, .pointer (some ⟨w2.heap.size, 0, none⟩))]) (fun v' w' => Taken w w' Q (.slice (some ⟨g, 0, none⟩) m c) v' L ∧ Has w' w2.heap.size (cl (En.rec r0 0)).toArray 32 (0, 0) ∧ Has w' w.heap.size (Value.agg #[.string ⟨#[]⟩, .string ⟨#[]⟩, .int .i64 0, .bool false]).cells 32 (0, 0)) (fun K1 hK1 => ?_) (fun v' w' hM => ?_)
  ·
    refine TC.seq ?_
    refine TC.regionTail 10 mixed0 (by kernel_rfl) ?_
    refine TS.via rfl rfl rfl rfl (TL.move rfl rfl (TL.done ⟨rfl, rfl⟩)) ?_
    refine TS.nilCheck rfl rfl ?_
    refine TS.via rfl rfl rfl rfl (TL.load pl55 rfl ((hQ.ch0 qd).cell 0) rfl (TL.done ⟨rfl, rfl⟩)) ?_
    refine TS.via rfl rfl rfl rfl (TL.move rfl rfl (TL.done ⟨rfl, rfl⟩)) ?_
    refine TS.nilCheck rfl rfl ?_
    refine TS.via rfl rfl rfl rfl (TL.load pl55 rfl ((hQ.ch0 qd).cell 0) rfl (TL.done ⟨rfl, rfl⟩)) ?_
    refine TS.via rfl rfl rfl rfl (TL.indexAddr (0) sl55 rfl rfl rfl hpos rfl (TL.done ⟨rfl, rfl⟩)) ?_
    refine TS.via rfl rfl rfl rfl (TL.load pl25 rfl (hcell _ qd) rfl (TL.done ⟨rfl, rfl⟩)) ?_
    refine TS.via rfl rfl rfl rfl (TL.sliceFrom (1) sl25 rfl rfl rfl hp0 rfl (TL.done ⟨rfl, rfl⟩)) ?_
    refine TS.via rfl rfl rfl rfl (TL.indexAddr (0) sl55 rfl rfl rfl hpos rfl (TL.done ⟨rfl, rfl⟩)) ?_
    refine TS.done ?_
    refine TL.store sz25 rfl rfl rfl (hcur.ch0 qd) (by omega) (by simp [Value.cells, Value.oneCell']) (.inl rfl) (fun ws2 hbs2 hcs2 hzs2 => ?_)
    replace hbs2 : Has ws2 g (cur.setIfInBounds 0 (.slice (adv (some ⟨b0, o0, none⟩) c0 1 4) (r0.length - 1) (c0 - 1))) 25 (0, 0) := hbs2.setOne rfl (by omega)
    have own1 := (ho.ch0 qd).store1 (hcur.ch0 qd) (k := 0) (v := .slice (adv (some ⟨b0, o0, none⟩) c0 1 4) (r0.length - 1) (c0 - 1)) hbs2
    rw [hvs, hL1] at own1
    have hQ2 : Has ws2 Q _ 55 (0, 0) := (hQ.ch0 qd).ch hcs2 (by simp; omega)
    have hge2 : ∀ x ∈ [g], Q ≤ x := fun x hx => by simp at hx; omega
    have hm1 : ((.slice (adv (some ⟨b0, o0, none⟩) c0 1 4) (r0.length - 1) (c0 - 1), r0.drop 1) :: L.drop 1 : List Row).length = m := by simp; omega
    have hl1 : (r0.drop 1).length = r0.length - 1 := List.length_drop
    have hr1 : RowsAt ws2 Q ((.slice (adv (some ⟨b0, o0, none⟩) c0 1 4) (r0.length - 1) (c0 - 1), r0.drop 1) :: L.drop 1) := fun p hp => by
      rcases List.mem_cons.1 hp with e | e
      · subst e
        have hb : ∀ k, (Value.slice (adv (some ⟨b0, o0, none⟩) c0 1 4) (r0.length - 1) (c0 - 1)).ownBlock = some k → k < Q := fun k hk => hblk0 k (by rw [← blk_adv (i := 1) (sz := 4) (l' := r0.length - 1) (c' := c0 - 1)]; exact hk)
        exact ⟨by rw [← hl1] at hcut ⊢; exact (hcut.ch0 qd).ch hcs2 (fun k hk hx => by have := hb k (by rw [hl1] at hk; exact hk); simp at hx; omega), hb⟩
      · exact ((hr.ch0 qd).ch hcs2 hge2) p (List.mem_of_mem_drop e)
    have hd1 := Hp.Heap.turn hh (.slice (adv (some ⟨b0, o0, none⟩) c0 1 4) (r0.length - 1) (c0 - 1), r0.drop 1) (by omega)
    rw [hL1] at hd1
    have hne1 : ∀ k, 0 < k → k < m → (Hp.g ((.slice (adv (some ⟨b0, o0, none⟩) c0 1 4) (r0.length - 1) (c0 - 1), r0.drop 1) :: L.drop 1 : List Row) k).2 ≠ [] := fun k h1 h2 => by
      rw [← hL1, Hp.g_set _ (by omega), if_neg (by omega)]; exact hne _ (Hp.g_mem (by omega))
    have hcell1 : ws2.cell? ⟨g, 0 + 0 * 1, none⟩ = some (.slice (adv (some ⟨b0, o0, none⟩) c0 1 4) (r0.length - 1) (c0 - 1)) := by obtain ⟨b', o', c', e, hh⟩ := cellAt hm1 (Rd.ofOwn own1) hpos; cases e; exact hh 0 hpos
    have q2 : Ch [g] w ws2 := (qd.weaken (by simp)).trans hcs2 (fun x h _ => h) (fun x h _ => h)
    have hb3s := (hbs1.ch0 (Ch.drew [] _)).ch hcs2 (by have := hc2.size; simp; omega)
    have hb2t := (hb2s.ch0 (Ch.drew [] _)).ch hcs2 (by simp; omega)
    have hqg : Q ≠ g := by omega
    refine TL.done ?_
    refine Thn.go ?_
    refine TC.seq ?_
    refine TC.region ?_
    refine TL.move rfl rfl ?_
    refine TL.nilCheck rfl rfl ?_
    refine TL.load pl55 rfl (hQ2.cell 0) rfl ?_
    refine TL.indexAddr (0) sl55 rfl rfl rfl hpos rfl ?_
    refine TL.load pl25 rfl (hcell1) rfl ?_
    refine TL.lenSlice Try.underlying25 rfl rfl ?_
    refine TL.eql rfl rfl rfl ?_
    refine TL.done ?_
    refine Thn.go ?_
    refine TC.condP rfl (fun h2 => ?_) (fun h2 => ?_)
    ·
      have hlast : r0.drop 1 = [] := List.eq_nil_of_length_eq_zero (by omega)
      refine TC.region ?_
      refine TL.move rfl rfl ?_
      refine TL.mkIface Try.underlying58 rfl rfl rfl ?_
      refine TL.call can44 rfl rfl (fn44 Q _ _ m hm1 hl hpos ws2 hQ2 own1 hr1 hne1 hd1) (fun v30 w30 hr30 => ?_)
      obtain ⟨v', L', hQ30, ho30, hb30, hpm, hh30, hc30⟩ := hr30
      have hp2 : L'.Perm (L.drop 1) := ((List.perm_cons _).1 hpm).symm
      have hgeQ : ∀ x ∈ Q :: blk (.slice (some ⟨g, 0, none⟩) m c), Q ≤ x := fun x hx => by rcases List.mem_cons.1 hx with h | h; omega; exact hge x h
      have hcx : Ch (Q :: blk (.slice (some ⟨g, 0, none⟩) m c)) w w30 := q2.trans hc30 (fun x h _ => by simp at h; simp [h, blk, Value.ownBlock]) (fun x h _ => h)
      refine TL.done ?_
      exact hK1 v' _ _ (by repeat (first | exact trivial | refine ⟨rfl, ?_⟩ | refine ⟨congrArg (fun b => some (Value.bool b)) (by first | exact (decide_eq_true (by grind)).symm | exact (decide_eq_false (by grind)).symm | exact decide_eq_decide.2 (by grind) | exact decide_eq_true (by grind) | exact decide_eq_false (by grind) | (exfalso; grind)), ?_⟩)) (⟨⟨L', hQ30, ho30, (hr1.ch hc30 hgeQ).perm' (fun p hp => List.mem_cons_of_mem _ (hp2.mem_iff.1 hp)), hh30, hb30, .inl ⟨hp2, by rw [er]; exact hlast⟩, hcx⟩, hb3s.ch hc30 (by have := hc2.size; simp [blk, Value.ownBlock]; omega), hb2t.ch hc30 (by simp [blk, Value.ownBlock]; omega)⟩)
    ·
      have hnl : r0.drop 1 ≠ [] := fun e => by have := congrArg List.length e; rw [hl1] at this; simp at this; omega
      refine TC.region ?_
      refine TL.move rfl rfl ?_
      refine TL.mkIface Try.underlying58 rfl rfl rfl ?_
      refine TL.call can45 rfl rfl (fn45 Q _ _ m hm1 hl ws2 hQ2 own1 hr1 (fun k hk => by rcases Nat.eq_zero_or_pos k with h0 | h0; subst h0; exact hnl; exact hne1 k h0 hk) hd1) (fun v33 w33 hr33 => ?_)
      obtain ⟨L', hL', hpm, hh33, ho33, hc33⟩ := hr33
      have hgeg : ∀ x ∈ blk (.slice (some ⟨g, 0, none⟩) m c), Q ≤ x := hge
      refine TL.done ?_
      exact hK1 (.slice (some ⟨g, 0, none⟩) m c) _ _ (by repeat (first | exact trivial | refine ⟨rfl, ?_⟩ | refine ⟨congrArg (fun b => some (Value.bool b)) (by first | exact (decide_eq_true (by grind)).symm | exact (decide_eq_false (by grind)).symm | exact decide_eq_decide.2 (by grind) | exact decide_eq_true (by grind) | exact decide_eq_false (by grind) | (exfalso; grind)), ?_⟩)) (⟨⟨L', hQ2.ch hc33 (by simp [blk, Value.ownBlock]; omega), by rw [hL']; exact ho33, (hr1.ch hc33 hgeg).perm hpm, by rw [hL']; exact hh33, rfl, .inr ⟨_, by rw [er]; exact hpm, by rw [er]; exact hnl⟩, (q2.weaken (fun x h => by simp at h; simp [h, blk, Value.ownBlock])).trans hc33 (fun x h _ => h) (fun x h _ => List.mem_cons_of_mem _ h)⟩, hb3s.ch hc33 (by have := hc2.size; simp [blk, Value.ownBlock]; omega), hb2t.ch hc33 (by simp [blk, Value.ownBlock]; omega)⟩)
  ·
    obtain ⟨⟨L', t1, t2, t3, t4, t5, t6, t7⟩, hb3e, hb2e⟩ := hM
    refine TC.seq ?_
    refine TC.region ?_
    refine TL.loadAgg (cl (En.rec r0 0)) ag32 rfl rfl (fun j _ => by rw [hb3e.cell, Nat.zero_add, List.getElem?_toArray]) rfl ?_
    refine TL.store sz32 rfl rfl rfl hb2e (by simp [Value.cells]) (by simpa [Value.cells] using cl_one (En.rec r0 0)) (.inl rfl) (fun ws3 hbs3 hcs3 hzs3 => ?_)
    replace hbs3 : Has ws3 w.heap.size (cl (En.rec r0 0)).toArray 32 (0, 0) := hbs3.setAll rfl
    refine TL.done ?_
    refine Thn.go ?_
    refine TC.ret ?_
    refine Ends.cell (cl (En.rec r0 0)) (.inl rfl) rfl ag32 rfl rfl (fun j _ => by rw [hbs3.cell, Nat.zero_add, List.getElem?_toArray]) ?_
    exact ⟨by rw [er], v', L', t1.ch hcs3 (by simp; omega), t2.ch hcs3 (fun k hk hx => by rw [t5] at hk; simp [Value.ownBlock] at hk; simp at hx; omega), t3.ch hcs3 (fun x hx => by simp at hx; omega), t4, t5, t6, t7.trans hcs3 (fun x h _ => h) (fun x h hx => by simp at h; omega)⟩

