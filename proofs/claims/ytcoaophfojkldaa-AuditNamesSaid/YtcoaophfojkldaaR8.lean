/-
  Walks through the given program: each theorem fnN says what the call of function N of the translation hands back, for all arguments that its premises describe, and that nothing that was there has turned.
-/
import Derived.Test.YtcoaophfojkldaaR7
namespace Go.Proofs.Ytcoaophfojkldaa
open Go.Lane

theorem take_set1 {α : Type} (L : List α) (p n : Nat) (x : α) (hp : p < n) (hn : n ≤ L.length) : (L.take p ++ [x] ++ L.drop (p + 1)).take n = (L.take n).set p x := by
  rw [← List.take_set, List.set_eq_take_append_cons_drop, if_pos (by omega), List.append_assoc]; rfl
/-- One cell of an own row, stored. -/
theorem Own.setAt {w w' : World} {base g c n sz p : Nat} {e : TypeId} {cs : List Value} {cur : Array Value} {x : Value} (h : Own w base e sz (.slice (some ⟨g, 0, none⟩) n c) n cs) (hcur : Has w g cur e (0, 0))
    (hp : p < n * sz) (hb : Has w' g (spl cur p [x]) e (0, 0)) : Own w' base e sz (.slice (some ⟨g, 0, none⟩) n c) n (cs.set p x) := by
  rcases h.2 with ⟨h, _⟩ | ⟨g', c', cur', he, hbg, hg, h3, h4, h5, h6⟩
  · cases h
  · cases he
    have e1 : cur = cur' := by
      have := hcur.symm.trans hg
      simpa using this
    subst e1
    have hcs : n * sz ≤ cur.size := by rw [h5]; exact Nat.mul_le_mul_right sz h3
    refine ⟨by rw [List.length_set]; exact h.1, .inr ⟨g, c, _, rfl, hbg, hb, h3, h4, by rw [size_spl (by simp; omega)]; exact h5, ?_⟩⟩
    rw [← h6]
    simp only [spl, List.length_singleton]
    exact take_set1 _ _ _ _ hp (by simpa using hcs)
def ann : List UInt8 := [97, 110, 110]
def create : List UInt8 := [99, 114, 101, 97, 116, 101]
def raise_ : List UInt8 := [114, 97, 105, 115, 101]
def X0 : Audit.Record := Audit.newR [] 5 ann create 200
def X1 : Audit.Record := { X0 with deed := raise_ }
def X2 : Audit.Record := { X1 with hash := [120] }
theorem n_check0 : Audit.checkN [] = -1 := by decide +kernel
theorem n_asked0 : Audit.askedE [] = 0 := by decide +kernel
theorem n_head0 : Audit.headS [] = Audit.nothing := by decide +kernel
theorem n_next0 : Audit.nextE [] 5 ann create 200 = 0 := by decide +kernel
theorem n_nextL0 : Audit.nextL [] 5 ann create 200 = [X0] := if_pos n_next0
theorem n_next1 : Audit.nextE [X0] 4 ann raise_ 200 = 150 := by decide +kernel
theorem n_text0 : Audit.textE X0 Audit.nothing = 0 := by decide +kernel
theorem n_hash0 : X0.hash = Hex.hexL (Sha.sum (Audit.textS X0 Audit.nothing)) := by decide +kernel
theorem n_check1 : Audit.checkN [X1] = 0 := by decide +kernel
theorem n_asked1 : Audit.askedE [X1] = 0 := by decide +kernel
theorem n_next2 : Audit.nextE [X1] 6 ann raise_ 200 = 150 := by decide +kernel
theorem n_next3 : Audit.nextE [] 6 ann raise_ 99 = 2 := by decide +kernel
theorem n_asked2 : Audit.askedE [X2] = 8 := by decide +kernel
theorem n_textl : (Audit.textS X0 Audit.nothing).length ≤ 1000 := by decide +kernel

theorem fn6 (w : World) : Rets Try.prog 6 #[] w (fun v w' => v = .bool true ∧ Ch [] w w') := by
  have hmm : maxLen = 9223372036854775807 := rfl
  have hno : ∀ r ∈ ([] : List Audit.Record), r.hash.length ≤ 100000 := by simp
  refine Rets.of (n := 151) (vs := []) Try.func6 rfl rfl rfl ?_
  refine TC.seq ?_
  refine TC.region ?_
  refine TL.assign rfl rfl ?_
  refine TL.done ?_
  refine Thn.go ?_
  refine TC.seq ?_
  refine TC.region ?_
  refine TL.call can15 rfl rfl (fn15 _ [] w (Rd.nil w 6) (fun _ => hno)) (fun v22 w22 hr22 => ?_)
  obtain ⟨rfl, hc22⟩ := hr22
  rw [n_check0, n_asked0]
  refine TL.move rfl rfl ?_
  refine TL.extract rfl rfl rfl ?_
  refine TL.extract rfl rfl rfl ?_
  refine TL.assign rfl rfl ?_
  refine TL.assign rfl rfl ?_
  refine TL.done ?_
  refine Thn.go ?_
  refine TC.seq ?_
  refine TC.region ?_
  refine TL.call can19 rfl rfl (fn19 _ [] w22 (Rd.nil w22 6) (fun _ => hno)) (fun v26 w26 hr26 => ?_)
  obtain ⟨rfl, hc26⟩ := hr26
  rw [n_head0, n_asked0]
  refine TL.move rfl rfl ?_
  refine TL.extract rfl rfl rfl ?_
  refine TL.extract rfl rfl rfl ?_
  refine TL.assign rfl rfl ?_
  refine TL.assign rfl rfl ?_
  refine TL.done ?_
  refine Thn.go ?_
  refine TC.seq ?_
  refine TC.region ?_
  refine TL.call can10 rfl rfl (fn10 _ [] 5 ann create 200 w26 (Rd.nil w26 6) (fun _ => hno)) (fun v30 w30 hr30 => ?_)
  obtain ⟨r30, rfl, hv30, hc30⟩ := hr30
  rw [n_next0]
  rw [n_nextL0] at hv30
  replace hv30 : Own w30 w26.heap.size 32 6 r30 1 ([X0].flatMap cl) := hv30
  obtain ⟨g, cg, rfl⟩ := hv30.form (by decide)
  refine TL.move rfl rfl ?_
  refine TL.extract rfl rfl rfl ?_
  refine TL.extract rfl rfl rfl ?_
  refine TL.assign rfl rfl ?_
  refine TL.assign rfl rfl ?_
  refine TL.done ?_
  refine Thn.go ?_
  refine TC.seq ?_
  refine TC.seq ?_
  refine TC.region ?_
  refine TL.move rfl rfl ?_
  refine TL.neq rfl rfl rfl ?_
  refine TL.no (by simp) ?_
  refine TL.move rfl rfl ?_
  refine TL.guardYes (d := 35) rfl rfl rfl ?_
  refine TL.move rfl rfl ?_
  refine TL.guardYes (d := 35) rfl rfl rfl ?_
  refine TL.lenSlice Try.underlying22 rfl rfl ?_
  refine TL.guardYes (d := 35) rfl rfl rfl ?_
  refine TL.neq rfl rfl rfl ?_
  refine TL.no (by simp) ?_
  refine TL.pickF rfl rfl rfl rfl ?_
  refine TL.done ?_
  refine Thn.go ?_
  refine TC.condF rfl rfl ?_
  refine TC.skip ?_
  refine Thn.go ?_
  refine TC.seq ?_
  refine TC.region ?_
  refine TL.move rfl rfl ?_
  refine TL.call can10 rfl rfl (fn10 _ [X0] 4 ann raise_ 200 w30 (Rd.ofOwn hv30) (fun _ => by decide +kernel)) (fun v42 w42 hr42 => ?_)
  obtain ⟨r42, rfl, hv42, hc42⟩ := hr42
  rw [n_next1]
  have hv30a := hv30.ch0 hc42
  refine TL.move rfl rfl ?_
  refine TL.extract rfl rfl rfl ?_
  refine TL.extract rfl rfl rfl ?_
  refine TL.assign rfl rfl ?_
  refine TL.assign rfl rfl ?_
  refine TL.done ?_
  refine Thn.go ?_
  refine TC.seq ?_
  refine TC.region ?_
  refine TL.move rfl rfl ?_
  refine TL.indexAddr (0) sl22 rfl rfl (by first | rfl | omega) (by omega) rfl ?_
  refine TL.loadAgg (cl X0) ag32 rfl rfl (fun j hj => by obtain ⟨b', o', e, hh⟩ := recAt (l := [X0]) (i := 0) (Rd.ofOwn hv30a) (by decide); cases e; exact hh j hj) rfl ?_
  refine TL.call can13 rfl rfl (fn13 X0 Audit.nothing (by decide +kernel) (by decide) w42) (fun v49 w49 hr49 => ?_)
  obtain ⟨rfl, hc49⟩ := hr49
  rw [n_text0]
  refine TL.move rfl rfl ?_
  refine TL.extract rfl rfl rfl ?_
  refine TL.extract rfl rfl rfl ?_
  refine TL.assign rfl rfl ?_
  refine TL.assign rfl rfl ?_
  refine TL.done ?_
  refine Thn.go ?_
  refine TC.seq ?_
  refine TC.region ?_
  refine TL.move rfl rfl ?_
  refine TL.strRd Try.underlying9 Try.underlying50 Try.underlying5 rfl (by have := n_textl; omega) rfl (fun v53 w53 hv53 hs53 _ hc53 hzz53 => ?_)
  refine TL.call can22 rfl rfl (fn22 _ (Audit.textS X0 Audit.nothing) (by have := n_textl; omega) _ hv53) (fun v54 w54 hr54 => ?_)
  obtain ⟨rfl, hc54⟩ := hr54
  have hs1 := Sha.sum_len (Audit.textS X0 Audit.nothing)
  refine TL.alloc ze48 rfl (fun w11 hb11 hc11 hz11 => ?_)
  refine TL.store sz48 rfl rfl (by simpa [Value.cells] using hs1) hb11 (by simp [Value.cells]) (by simpa [Value.cells] using one_u8 (Sha.sum (Audit.textS X0 Audit.nothing))) (.inl rfl) (fun ws1 hbs1 hcs1 hzs1 => ?_)
  replace hbs1 : Has ws1 w54.heap.size ((Sha.sum (Audit.textS X0 Audit.nothing)).map u8).toArray 48 (0, 0) := hbs1.setAll (by simp [Value.cells, hs1])
  have q1 : Ch [] w42 ws1 := (((hc49.trans0 hc53).trans0 hc54).trans0 hc11).then1 hcs1 (by have := hc49.size; have := hc53.size; have := hc54.size; omega)
  have hv30b := hv30a.ch0 q1
  have hce : ∀ w2, Ch [] ws1 w2 → ∀ j, j < 6 → w2.cell? ⟨g, 0 + 0 * 6 + j, none⟩ = (cl X0)[j]? := fun w2 h2 j hj => by obtain ⟨b', o', e, hh⟩ := recAt (l := [X0]) (i := 0) (Rd.ofOwn (hv30b.ch0 h2)) (by decide); cases e; exact hh j hj
  refine TL.done ?_
  refine Thn.go ?_
  refine TC.seq ?_
  refine TC.regionQ (fun w4 => Ch [] ws1 w4) mixed0 (by kernel_rfl) (Ch.drew [] _) ?_
  refine TQ.via rfl rfl rfl rfl (fun w2 hw2 => TL.move rfl rfl (TL.done ⟨rfl, rfl⟩)) ?_
  refine TQ.via rfl rfl rfl rfl (fun w2 hw2 => TL.eql rfl rfl rfl (TL.done ⟨rfl, rfl⟩)) ?_
  refine TQ.yes (rfl) ?_
  refine TQ.via rfl rfl rfl rfl (fun w2 hw2 => TL.move rfl rfl (TL.done ⟨rfl, rfl⟩)) ?_
  refine TQ.guardYes (d := 57) rfl rfl rfl ?_
  refine TQ.via rfl rfl rfl rfl (fun w2 hw2 => TL.move rfl rfl (TL.done ⟨rfl, rfl⟩)) ?_
  refine TQ.guardYes (d := 57) rfl rfl rfl ?_
  refine TQ.via rfl rfl rfl rfl (fun w2 hw2 => TL.eql rfl rfl rfl (TL.done ⟨rfl, rfl⟩)) ?_
  refine TQ.yes (rfl) ?_
  refine TQ.via rfl rfl rfl rfl (fun w2 hw2 => TL.pickT rfl rfl rfl rfl (TL.done ⟨rfl, rfl⟩)) ?_
  refine TQ.via rfl rfl rfl rfl (fun w2 hw2 => TL.move rfl rfl (TL.done ⟨rfl, rfl⟩)) ?_
  refine TQ.guardYes (d := 61) rfl rfl rfl ?_
  refine TQ.via rfl rfl rfl rfl (fun w2 hw2 => TL.move rfl rfl (TL.done ⟨rfl, rfl⟩)) ?_
  refine TQ.guardYes (d := 61) rfl rfl rfl ?_
  refine TQ.via rfl rfl rfl rfl (fun w2 hw2 => TL.eqlStr rfl rfl rfl (TL.done ⟨rfl, rfl⟩)) ?_
  refine TQ.yes (rfl) ?_
  refine TQ.via rfl rfl rfl rfl (fun w2 hw2 => TL.pickT rfl rfl rfl rfl (TL.done ⟨rfl, rfl⟩)) ?_
  refine TQ.via rfl rfl rfl rfl (fun w2 hw2 => TL.move rfl rfl (TL.done ⟨rfl, rfl⟩)) ?_
  refine TQ.guardYes (d := 65) rfl rfl rfl ?_
  refine TQ.via rfl rfl rfl rfl (fun w2 hw2 => TL.move rfl rfl (TL.done ⟨rfl, rfl⟩)) ?_
  refine TQ.guardYes (d := 65) rfl rfl rfl ?_
  refine TQ.via rfl rfl rfl rfl (fun w2 hw2 => TL.eql rfl rfl rfl (TL.done ⟨rfl, rfl⟩)) ?_
  refine TQ.yes (rfl) ?_
  refine TQ.via rfl rfl rfl rfl (fun w2 hw2 => TL.pickT rfl rfl rfl rfl (TL.done ⟨rfl, rfl⟩)) ?_
  refine TQ.via rfl rfl rfl rfl (fun w2 hw2 => TL.move rfl rfl (TL.done ⟨rfl, rfl⟩)) ?_
  refine TQ.guardYes (d := 69) rfl rfl rfl ?_
  refine TQ.via rfl rfl rfl rfl (fun w2 hw2 => TL.move rfl rfl (TL.done ⟨rfl, rfl⟩)) ?_
  refine TQ.guardYes (d := 69) rfl rfl rfl ?_
  refine TQ.via rfl rfl rfl rfl (fun w2 hw2 => TL.indexAddr (0) sl22 rfl rfl (by first | rfl | omega) (by omega) rfl (TL.done ⟨rfl, rfl⟩)) ?_
  refine TQ.guardYes (d := 69) rfl rfl rfl ?_
  refine TQ.via rfl rfl rfl rfl (fun w2 hw2 => TL.fieldAddr fd32k0 rfl rfl (TL.done ⟨rfl, rfl⟩)) ?_
  refine TQ.guardYes (d := 69) rfl rfl rfl ?_
  refine TQ.via rfl rfl rfl rfl (fun w2 hw2 => TL.load pl3 rfl ((show _ = some (Value.int .i64 0) from hce _ hw2 0 (by decide))) rfl (TL.done ⟨rfl, rfl⟩)) ?_
  refine TQ.guardYes (d := 69) rfl rfl rfl ?_
  refine TQ.via rfl rfl rfl rfl (fun w2 hw2 => TL.eql rfl rfl rfl (TL.done ⟨rfl, rfl⟩)) ?_
  refine TQ.yes (rfl) ?_
  refine TQ.via rfl rfl rfl rfl (fun w2 hw2 => TL.pickT rfl rfl rfl rfl (TL.done ⟨rfl, rfl⟩)) ?_
  refine TQ.via rfl rfl rfl rfl (fun w2 hw2 => TL.move rfl rfl (TL.done ⟨rfl, rfl⟩)) ?_
  refine TQ.guardYes (d := 76) rfl rfl rfl ?_
  refine TQ.via rfl rfl rfl rfl (fun w2 hw2 => TL.move rfl rfl (TL.done ⟨rfl, rfl⟩)) ?_
  refine TQ.guardYes (d := 76) rfl rfl rfl ?_
  refine TQ.via rfl rfl rfl rfl (fun w2 hw2 => TL.indexAddr (0) sl22 rfl rfl (by first | rfl | omega) (by omega) rfl (TL.done ⟨rfl, rfl⟩)) ?_
  refine TQ.guardYes (d := 76) rfl rfl rfl ?_
  refine TQ.via rfl rfl rfl rfl (fun w2 hw2 => TL.fieldAddr fd32k1 rfl rfl (TL.done ⟨rfl, rfl⟩)) ?_
  refine TQ.guardYes (d := 76) rfl rfl rfl ?_
  refine TQ.via rfl rfl rfl rfl (fun w2 hw2 => TL.load pl3 rfl ((show _ = some (Value.int .i64 5) from hce _ hw2 1 (by decide))) rfl (TL.done ⟨rfl, rfl⟩)) ?_
  refine TQ.guardYes (d := 76) rfl rfl rfl ?_
  refine TQ.via rfl rfl rfl rfl (fun w2 hw2 => TL.eql rfl rfl rfl (TL.done ⟨rfl, rfl⟩)) ?_
  refine TQ.yes (rfl) ?_
  refine TQ.via rfl rfl rfl rfl (fun w2 hw2 => TL.pickT rfl rfl rfl rfl (TL.done ⟨rfl, rfl⟩)) ?_
  refine TQ.via rfl rfl rfl rfl (fun w2 hw2 => TL.move rfl rfl (TL.done ⟨rfl, rfl⟩)) ?_
  refine TQ.guardYes (d := 83) rfl rfl rfl ?_
  refine TQ.via rfl rfl rfl rfl (fun w2 hw2 => TL.move rfl rfl (TL.done ⟨rfl, rfl⟩)) ?_
  refine TQ.guardYes (d := 83) rfl rfl rfl ?_
  refine TQ.via rfl rfl rfl rfl (fun w2 hw2 => TL.eql rfl rfl rfl (TL.done ⟨rfl, rfl⟩)) ?_
  refine TQ.yes (rfl) ?_
  refine TQ.via rfl rfl rfl rfl (fun w2 hw2 => TL.pickT rfl rfl rfl rfl (TL.done ⟨rfl, rfl⟩)) ?_
  refine TQ.via rfl rfl rfl rfl (fun w2 hw2 => TL.move rfl rfl (TL.done ⟨rfl, rfl⟩)) ?_
  refine TQ.guardYes (d := 87) rfl rfl rfl ?_
  refine TQ.via rfl rfl rfl rfl (fun w2 hw2 => TL.move rfl rfl (TL.done ⟨rfl, rfl⟩)) ?_
  refine TQ.guardYes (d := 87) rfl rfl rfl ?_
  refine TQ.via rfl rfl rfl rfl (fun w2 hw2 => TL.eql rfl rfl rfl (TL.done ⟨rfl, rfl⟩)) ?_
  refine TQ.yes (rfl) ?_
  refine TQ.via rfl rfl rfl rfl (fun w2 hw2 => TL.pickT rfl rfl rfl rfl (TL.done ⟨rfl, rfl⟩)) ?_
  refine TQ.via rfl rfl rfl rfl (fun w2 hw2 => TL.move rfl rfl (TL.done ⟨rfl, rfl⟩)) ?_
  refine TQ.guardYes (d := 91) rfl rfl rfl ?_
  refine TQ.via rfl rfl rfl rfl (fun w2 hw2 => TL.move rfl rfl (TL.done ⟨rfl, rfl⟩)) ?_
  refine TQ.guardYes (d := 91) rfl rfl rfl ?_
  refine TQ.via rfl rfl rfl rfl (fun w2 hw2 => TL.indexAddr (0) sl22 rfl rfl (by first | rfl | omega) (by omega) rfl (TL.done ⟨rfl, rfl⟩)) ?_
  refine TQ.guardYes (d := 91) rfl rfl rfl ?_
  refine TQ.via rfl rfl rfl rfl (fun w2 hw2 => TL.fieldAddr fd32k5 rfl rfl (TL.done ⟨rfl, rfl⟩)) ?_
  refine TQ.guardYes (d := 91) rfl rfl rfl ?_
  refine TQ.via rfl rfl rfl rfl (fun w2 hw2 => TL.load pl9 rfl ((show _ = some (str X0.hash) from hce _ hw2 5 (by decide))) rfl (TL.done ⟨rfl, rfl⟩)) ?_
  refine TQ.guardYes (d := 91) rfl rfl rfl ?_
  refine TQ.via rfl rfl rfl rfl (fun w2 hw2 => TL.sliceArr ar48 rfl rfl (TL.done ⟨rfl, rfl⟩)) ?_
  refine TQ.guardYes (d := 91) rfl rfl rfl ?_
  refine TQ.call (str (Hex.hexL (Sha.sum (Audit.textS X0 Audit.nothing)))) can23 rfl rfl (fun w2 hw2 => (fn23 _ (Sha.sum (Audit.textS X0 Audit.nothing)) w2 (Rd.bytes _ (Rd.ofRow (m := 32) (hbs1.ch0 hw2) (by simp [hs1]) (by decide)) hs1.symm rfl) (by omega)).mono (fun _ _ ⟨q1, q2⟩ => ⟨q1, hw2.trans0 q2⟩)) ?_
  refine TQ.guardYes (d := 91) rfl rfl rfl ?_
  refine TQ.via rfl rfl rfl rfl (fun w2 hw2 => TL.eqlStr rfl rfl rfl (TL.done ⟨rfl, rfl⟩)) ?_
  refine TQ.via rfl rfl rfl rfl (fun w2 hw2 => TL.pickT rfl rfl rfl rfl (TL.done ⟨rfl, rfl⟩)) ?_
  refine TQ.via rfl rfl rfl rfl (fun w2 hw2 => TL.assign rfl rfl (TL.done ⟨rfl, rfl⟩)) ?_
  refine TQ.done (fun w2 hw2 => ?_)
  rw [show decide (X0.hash = Hex.hexL (Sha.sum (Audit.textS X0 Audit.nothing))) = true from decide_eq_true n_hash0]
  have hv30c := hv30b.ch0 hw2
  obtain ⟨cur, hcur, hcsz, hcn, _, hgb, _⟩ := hv30c.has
  refine Thn.go ?_
  refine TC.seq ?_
  refine TC.region ?_
  refine TL.move rfl rfl ?_
  refine TL.indexAddr (0) sl22 rfl rfl (by first | rfl | omega) (by omega) rfl ?_
  refine TL.fieldAddr fd32k3 rfl rfl ?_
  refine TL.store sz9 rfl rfl rfl hcur (by rw [hcsz]; have : 1 ≤ cg := hcn; simp [Value.cells]; omega) (by simp [Value.cells, str, Value.oneCell']) (.inl rfl) (fun ws2 hbs2 hcs2 hzs2 => ?_)
  have hv1 : Own ws2 w26.heap.size 32 6 (.slice (some ⟨g, 0, none⟩) 1 cg) 1 ([X1].flatMap cl) := Own.setAt hv30c hcur (by decide) hbs2
  have q2 : Ch [] w26 ws2 := (((hc30.trans0 hc42).trans0 q1).trans0 hw2).then1 hcs2 hgb
  refine TL.done ?_
  refine Thn.go ?_
  refine TC.seq ?_
  refine TC.region ?_
  refine TL.move rfl rfl ?_
  refine TL.call can15 rfl rfl (fn15 _ [X1] ws2 (Rd.ofOwn hv1) (fun _ => by decide +kernel)) (fun v105 w105 hr105 => ?_)
  obtain ⟨rfl, hc105⟩ := hr105
  rw [n_check1, n_asked1]
  refine TL.move rfl rfl ?_
  refine TL.extract rfl rfl rfl ?_
  refine TL.extract rfl rfl rfl ?_
  refine TL.assign rfl rfl ?_
  refine TL.assign rfl rfl ?_
  refine TL.done ?_
  refine Thn.go ?_
  refine TC.seq ?_
  refine TC.region ?_
  refine TL.move rfl rfl ?_
  refine TL.call can10 rfl rfl (fn10 _ [X1] 6 ann raise_ 200 w105 (Rd.ofOwn (hv1.ch0 hc105)) (fun _ => by decide +kernel)) (fun v110 w110 hr110 => ?_)
  obtain ⟨r110, rfl, hv110, hc110⟩ := hr110
  rw [n_next2]
  refine TL.move rfl rfl ?_
  refine TL.extract rfl rfl rfl ?_
  refine TL.extract rfl rfl rfl ?_
  refine TL.assign rfl rfl ?_
  refine TL.assign rfl rfl ?_
  refine TL.done ?_
  refine Thn.go ?_
  refine TC.seq ?_
  refine TC.region ?_
  refine TL.call can10 rfl rfl (fn10 _ [] 6 ann raise_ 99 w110 (Rd.nil w110 6) (fun _ => hno)) (fun v114 w114 hr114 => ?_)
  obtain ⟨r114, rfl, hv114, hc114⟩ := hr114
  rw [n_next3]
  have hv2 := ((hv1.ch0 hc105).ch0 hc110).ch0 hc114
  obtain ⟨cur2, hcur2, hcsz2, hcn2, _, hgb2, _⟩ := hv2.has
  refine TL.move rfl rfl ?_
  refine TL.extract rfl rfl rfl ?_
  refine TL.extract rfl rfl rfl ?_
  refine TL.assign rfl rfl ?_
  refine TL.assign rfl rfl ?_
  refine TL.done ?_
  refine Thn.go ?_
  refine TC.seq ?_
  refine TC.region ?_
  refine TL.move rfl rfl ?_
  refine TL.indexAddr (0) sl22 rfl rfl (by first | rfl | omega) (by omega) rfl ?_
  refine TL.fieldAddr fd32k5 rfl rfl ?_
  refine TL.store sz9 rfl rfl rfl hcur2 (by rw [hcsz2]; have : 1 ≤ cg := hcn2; simp [Value.cells]; omega) (by simp [Value.cells, str, Value.oneCell']) (.inl rfl) (fun ws3 hbs3 hcs3 hzs3 => ?_)
  have hv3 : Own ws3 w26.heap.size 32 6 (.slice (some ⟨g, 0, none⟩) 1 cg) 1 ([X2].flatMap cl) := Own.setAt hv2 hcur2 (by decide) hbs3
  have q3 : Ch [] w26 ws3 := (((q2.trans0 hc105).trans0 hc110).trans0 hc114).then1 hcs3 hgb2
  refine TL.done ?_
  refine Thn.go ?_
  refine TC.seq ?_
  refine TC.region ?_
  refine TL.move rfl rfl ?_
  refine TL.call can15 rfl rfl (fn15 _ [X2] ws3 (Rd.ofOwn hv3) (fun _ => by decide +kernel)) (fun v122 w122 hr122 => ?_)
  obtain ⟨rfl, hc122⟩ := hr122
  rw [n_asked2]
  refine TL.move rfl rfl ?_
  refine TL.extract rfl rfl rfl ?_
  refine TL.extract rfl rfl rfl ?_
  refine TL.assign rfl rfl ?_
  refine TL.assign rfl rfl ?_
  refine TL.done ?_
  refine Thn.go ?_
  refine TC.cut0 ([(0, .bool true)]) (fun w2 => Ch [] w122 w2) (fun K3 hK3 => ?_) (fun w2 hH => ?_)
  ·
    refine TC.region ?_
    refine TL.move rfl rfl ?_
    refine TL.guardYes (d := 125) rfl rfl rfl ?_
    refine TL.call can21 rfl rfl (fn21 w122) (fun v126 w126 hr126 => ?_)
    obtain ⟨rfl, hc126⟩ := hr126
    refine TL.pickT rfl rfl rfl rfl ?_
    refine TL.move rfl rfl ?_
    refine TL.guardYes (d := 128) rfl rfl rfl ?_
    refine TL.move rfl rfl ?_
    refine TL.emB (fun e129 => ?_) (fun e129 => ?_)
    ·
      refine TL.pickT rfl rfl rfl rfl ?_
      refine TL.move rfl rfl ?_
      refine TL.guardYes (d := 131) rfl rfl rfl ?_
      refine TL.move rfl rfl ?_
      refine TL.guardYes (d := 131) rfl rfl rfl ?_
      refine TL.eql rfl rfl rfl ?_
      refine TL.yes (rfl) ?_
      refine TL.pickT rfl rfl rfl rfl ?_
      refine TL.move rfl rfl ?_
      refine TL.guardYes (d := 135) rfl rfl rfl ?_
      refine TL.move rfl rfl ?_
      refine TL.guardYes (d := 135) rfl rfl rfl ?_
      refine TL.eql rfl rfl rfl ?_
      refine TL.yes (rfl) ?_
      refine TL.pickT rfl rfl rfl rfl ?_
      refine TL.move rfl rfl ?_
      refine TL.guardYes (d := 139) rfl rfl rfl ?_
      refine TL.move rfl rfl ?_
      refine TL.guardYes (d := 139) rfl rfl rfl ?_
      refine TL.eql rfl rfl rfl ?_
      refine TL.yes (rfl) ?_
      refine TL.pickT rfl rfl rfl rfl ?_
      refine TL.move rfl rfl ?_
      refine TL.guardYes (d := 143) rfl rfl rfl ?_
      refine TL.move rfl rfl ?_
      refine TL.guardYes (d := 143) rfl rfl rfl ?_
      refine TL.eql rfl rfl rfl ?_
      refine TL.yes (rfl) ?_
      refine TL.pickT rfl rfl rfl rfl ?_
      refine TL.move rfl rfl ?_
      refine TL.guardYes (d := 147) rfl rfl rfl ?_
      refine TL.move rfl rfl ?_
      refine TL.guardYes (d := 147) rfl rfl rfl ?_
      refine TL.eql rfl rfl rfl ?_
      refine TL.yes (rfl) ?_
      refine TL.pickT rfl rfl rfl rfl ?_
      refine TL.assign rfl rfl ?_
      refine TL.done ?_
      exact hK3  _ _ (by repeat (first | exact trivial | refine ⟨rfl, ?_⟩ | refine ⟨congrArg (fun b => some (Value.bool b)) (by first | exact (decide_eq_true (by grind)).symm | exact (decide_eq_false (by grind)).symm | exact decide_eq_decide.2 (by grind) | exact decide_eq_true (by grind) | exact decide_eq_false (by grind) | (exfalso; grind)), ?_⟩)) (hc126)
    ·
      refine TL.pickT rfl rfl rfl rfl ?_
      refine TL.move rfl rfl ?_
      refine TL.guardNo (d := 131) rfl rfl rfl rfl rfl ?_
      refine TL.guardNo (d := 131) rfl rfl rfl rfl rfl ?_
      refine TL.pickF rfl rfl rfl rfl ?_
      refine TL.move rfl rfl ?_
      refine TL.guardNo (d := 135) rfl rfl rfl rfl rfl ?_
      refine TL.guardNo (d := 135) rfl rfl rfl rfl rfl ?_
      refine TL.pickF rfl rfl rfl rfl ?_
      refine TL.move rfl rfl ?_
      refine TL.guardNo (d := 139) rfl rfl rfl rfl rfl ?_
      refine TL.guardNo (d := 139) rfl rfl rfl rfl rfl ?_
      refine TL.pickF rfl rfl rfl rfl ?_
      refine TL.move rfl rfl ?_
      refine TL.guardNo (d := 143) rfl rfl rfl rfl rfl ?_
      refine TL.guardNo (d := 143) rfl rfl rfl rfl rfl ?_
      refine TL.pickF rfl rfl rfl rfl ?_
      refine TL.move rfl rfl ?_
      refine TL.guardNo (d := 147) rfl rfl rfl rfl rfl ?_
      refine TL.guardNo (d := 147) rfl rfl rfl rfl rfl ?_
      refine TL.pickF rfl rfl rfl rfl ?_
      refine TL.assign rfl rfl ?_
      refine TL.done ?_
      exact hK3  _ _ (by repeat (first | exact trivial | refine ⟨rfl, ?_⟩ | refine ⟨congrArg (fun b => some (Value.bool b)) (by first | exact (decide_eq_true (by grind)).symm | exact (decide_eq_false (by grind)).symm | exact decide_eq_decide.2 (by grind) | exact decide_eq_true (by grind) | exact decide_eq_false (by grind) | (exfalso; grind)), ?_⟩)) (hc126)
  ·
    refine TC.ret ?_
    refine Ends.ret [0] rfl rfl ?_
    exact ⟨rfl, (((hc22.trans0 hc26).trans0 q3).trans0 hc122).trans0 hH⟩

