/-
  Walks through the given program: each theorem fnN says what the call of function N of the translation hands back, for all arguments that its premises describe, and that nothing that was there has turned.
-/
import Derived.Test.YteogahcefkepaaaF2
namespace Go.Proofs.Yteogahcefkepaaa
open Go.Lane
theorem can36 : Callable Try.prog 36 := ⟨Try.f36, Try.func36, by kernel_rfl, rfl⟩
theorem pl22 : Plain Try.prog 22 := ⟨_, Try.underlying22, rfl⟩
theorem sl70 : SliceT Try.prog 70 22 1 24 (.slice none 0 0) := SliceT.mk' Try.underlying70 (by kernel_rfl) rfl rfl
/-- Rows of entries, and the values that hold them. -/
abbrev Row := Value × List En.Entry
def vals (L : List Row) : List Value := L.map (·.1)
def ents (L : List Row) : List En.Entry := L.flatMap (·.2)
theorem ents_next {L : List Row} {i : Nat} (h : i < L.length) : ents (L.take (i + 1)) = ents (L.take i) ++ L[i].2 := by
  rw [ents, ents, List.take_add_one, List.getElem?_eq_getElem h, List.flatMap_append]
  simp
theorem ents_le (L : List Row) (i : Nat) : (ents (L.take i)).length ≤ (ents L).length := by
  have : ents L = ents (L.take i) ++ ents (L.drop i) := by rw [ents, ents, ents, ← List.flatMap_append, List.take_append_drop]
  rw [this, List.length_append]; omega

theorem fn36 (n : Nat) (hn0 : 0 < n) (hn : n ≤ 1000000) (w : World) : Rets Try.prog 36 #[.slice none 0 0, .int .i64 (n : Int)] w (fun v w' => Own w' w.heap.size 30 4 v 0 [] ∧ Ch [] w w') := by
  have hmm : maxLen = 9223372036854775807 := rfl
  refine Rets.of (n := 27) (vs := [_, _]) Try.func36 rfl rfl rfl ?_
  refine TC.seq ?_
  refine TC.region ?_
  refine TL.assign rfl rfl ?_
  refine TL.done ?_
  refine Thn.go ?_
  refine TC.seq ?_
  refine TC.seq ?_
  refine TC.region ?_
  refine TL.move rfl rfl ?_
  refine TL.lss rfl rfl rfl ?_
  refine TL.no (by omega) ?_
  refine TL.done ?_
  refine Thn.go ?_
  refine TC.condF rfl rfl ?_
  refine TC.skip ?_
  refine Thn.go ?_
  refine TC.seq ?_
  refine TC.seq ?_
  refine TC.region ?_
  refine TL.move rfl rfl ?_
  refine TL.move rfl rfl ?_
  refine TL.capSlice Try.underlying22 rfl rfl ?_
  refine TL.move rfl rfl ?_
  refine TL.lenSlice Try.underlying22 rfl rfl ?_
  refine TL.sub_i64 rfl rfl (by omega) (by omega) rfl ?_
  refine TL.sub_i64 rfl rfl (by omega) (by omega) rfl ?_
  refine TL.assign rfl rfl ?_
  refine TL.done ?_
  refine Thn.go ?_
  refine TC.seq ?_
  refine TC.region ?_
  refine TL.move rfl rfl ?_
  refine TL.gtr rfl rfl rfl ?_
  refine TL.yes (by omega) ?_
  refine TL.done ?_
  refine Thn.go ?_
  refine TC.condT rfl rfl ?_
  refine TC.region ?_
  refine TL.move rfl rfl ?_
  refine TL.move rfl rfl ?_
  refine TL.capSlice Try.underlying22 rfl rfl ?_
  refine TL.sliceTo (0) sl22 rfl rfl rfl (by omega) rfl ?_
  refine TL.move rfl rfl ?_
  refine TL.appendNilZeros (k := n) sl22 Try.underlying3 rfl rfl (by omega) rfl hn0 (by omega) (by omega) (fun c' cur w22 hb22 hcsz hkc hcm hc22 hz22 => ?_)
  refine TL.move rfl rfl ?_
  refine TL.lenSlice Try.underlying22 rfl rfl ?_
  refine TL.sliceTo (0) sl22 rfl rfl rfl (by omega) rfl ?_
  refine TL.assign rfl rfl ?_
  refine TL.done ?_
  refine Thn.go ?_
  refine TC.seq ?_
  refine TC.region ?_
  refine TL.move rfl rfl ?_
  refine TL.assign rfl rfl ?_
  refine TL.done ?_
  refine Thn.go ?_
  refine TC.ret ?_
  refine Ends.ret [4] rfl rfl ?_
  exact ⟨⟨by simp, .inr ⟨_, _, _, rfl, Nat.le_refl _, hb22, by omega, hcm, hcsz, by simp⟩⟩, hc22⟩

theorem fn33 (a : Value) (L : List Row) (hL : L.length ≤ 100) (h0 : 0 < (ents L).length) (hm : (ents L).length ≤ 1000000) (w : World) (ha : Rd w a 1 L.length (vals L)) (hr : ∀ p ∈ L, Rd w p.1 4 p.2.length (p.2.flatMap cl)) : Rets Try.prog 33 #[a] w (fun v w' => Own w' w.heap.size 30 4 v (ents L).length ((ents L).flatMap cl) ∧ Ch [] w w') := by
  obtain ⟨ad, c, rfl, _⟩ := ha.shape
  have hmm : maxLen = 9223372036854775807 := rfl
  refine Rets.of (n := 36) (vs := [_]) Try.func33 rfl rfl rfl ?_
  refine TC.seq ?_
  refine TC.region ?_
  refine TL.assign rfl rfl ?_
  refine TL.done ?_
  refine Thn.go ?_
  refine TC.seq ?_
  refine TC.region ?_
  refine TL.assign rfl rfl ?_
  refine TL.done ?_
  refine Thn.go ?_
  refine TC.seq ?_
  refine TC.seq ?_
  refine TC.region ?_
  refine TL.move rfl rfl ?_
  refine TL.lenSlice Try.underlying70 rfl rfl ?_
  refine TL.move rfl rfl ?_
  refine TL.done ?_
  refine Thn.go ?_
  refine TC.block ?_
  refine TC.loop1 (fun (i : Nat) => [(0, .slice ad L.length c), (3, .int .i64 ((ents (L.take i)).length : Int)), (9, .slice ad L.length c), (10, .int .i64 (L.length : Int)), (11, .int .i64 (i : Int))]) (fun i w' => i ≤ L.length ∧ w' = w) (fun i => L.length - i) 0 (by repeat (first | exact trivial | refine ⟨rfl, ?_⟩)) (⟨by omega, rfl⟩) (fun i w' hI => ?_)
  obtain ⟨hi, rfl⟩ := hI
  have hel := ents_le L i
  refine TC.seq ?_
  refine TC.region ?_
  refine TL.lss rfl rfl rfl ?_
  refine TL.done ?_
  refine Thn.go ?_
  refine TC.seq ?_
  refine TC.condP rfl (fun h1 => ?_) (fun h1 => ?_)
  ·
    have hil : i < L.length := by omega
    obtain ⟨b1, o1, rfl⟩ := ha.some_ (by omega)
    have hcell : w'.cell? ⟨b1, o1 + i * 1, none⟩ = some L[i].1 := Rd.eltIn (f := (·.1)) ha hil
    have hri := hr L[i] (List.getElem_mem hil)
    have hen := ents_next hil
    have hel2 := ents_le L (i + 1)
    obtain ⟨x, ex⟩ : ∃ x, L[i] = x := ⟨_, rfl⟩
    rw [ex] at hcell hri hen
    obtain ⟨xv, r⟩ := x
    replace hri : Rd w' xv 4 r.length (r.flatMap cl) := hri
    replace hen : ents (L.take (i + 1)) = ents (L.take i) ++ r := hen
    rw [hen, List.length_append] at hel2
    obtain ⟨ar, cr, rfl, _⟩ := hri.shape
    refine TC.skip ?_
    refine Thn.go ?_
    refine TC.seq ?_
    refine TC.block ?_
    refine TC.seq ?_
    refine TC.region ?_
    refine TL.indexAddr (i) sl70 rfl rfl (by first | rfl | omega) (by omega) rfl ?_
    refine TL.load pl22 rfl (hcell) rfl ?_
    refine TL.assign rfl rfl ?_
    refine TL.done ?_
    refine Thn.go ?_
    refine TC.seq ?_
    refine TC.region ?_
    refine TL.move rfl rfl ?_
    refine TL.move rfl rfl ?_
    refine TL.lenSlice Try.underlying22 rfl rfl ?_
    refine TL.add_i64 rfl rfl (by omega) (by omega) rfl ?_
    rw [show (((ents (L.take i)).length : Nat) : Int) + (r.length : Int) = ((ents (L.take (i + 1))).length : Int) by rw [hen, List.length_append]; omega]
    refine TL.assign rfl rfl ?_
    refine TL.done ?_
    refine Thn.go ?_
    refine TC.seq ?_
    refine TC.region ?_
    refine TL.move rfl rfl ?_
    refine TL.lss rfl rfl rfl ?_
    refine TL.no (by omega) ?_
    refine TL.done ?_
    refine Thn.go ?_
    refine TC.condF rfl rfl ?_
    refine TC.skip ?_
    refine Blk.go ?_
    refine Thn.go ?_
    refine TC.region ?_
    refine TL.add_i64 rfl rfl (by omega) (by omega) rfl ?_
    refine TL.move rfl rfl ?_
    refine TL.done ?_
    refine Lp.go (i + 1) (by repeat (first | exact trivial | refine ⟨rfl, ?_⟩)) ?_ (by first | omega | (dsimp only; omega))
    exact ⟨by omega, rfl⟩
  ·
    have hil : i = L.length := by omega
    subst hil
    rw [List.take_length]
    refine TC.exit ?_
    refine Thn.exit ?_
    refine Lp.exit ?_
    refine Blk.hit ?_
    refine Thn.go ?_
    refine TC.seq ?_
    refine TC.region ?_
    refine TL.move rfl rfl ?_
    refine TL.call can36 rfl rfl (fn36 (ents L).length h0 hm w') (fun v24 w24 hr24 => ?_)
    obtain ⟨hv24, hc24⟩ := hr24
    refine TL.assign rfl rfl ?_
    refine TL.done ?_
    refine Thn.go ?_
    refine TC.seq ?_
    refine TC.seq ?_
    refine TC.region ?_
    refine TL.move rfl rfl ?_
    refine TL.lenSlice Try.underlying70 rfl rfl ?_
    refine TL.move rfl rfl ?_
    refine TL.done ?_
    refine Thn.go ?_
    refine TC.block ?_
    refine TC.loop2 (fun (i : Nat) (ov : Value) => [(6, ov), (25, .slice ad L.length c), (26, .int .i64 (L.length : Int)), (27, .int .i64 (i : Int))]) (fun i ov w2 => i ≤ L.length ∧ Own w2 w'.heap.size 30 4 ov (ents (L.take i)).length ((ents (L.take i)).flatMap cl) ∧ Ch [] w' w2) (fun i _ => L.length - i) 0 v24 (by repeat (first | exact trivial | refine ⟨rfl, ?_⟩)) (⟨by omega, hv24, hc24⟩) (fun i ov w2 hI => ?_)
    obtain ⟨hi2, hown, hch⟩ := hI
    refine TC.seq ?_
    refine TC.region ?_
    refine TL.lss rfl rfl rfl ?_
    refine TL.done ?_
    refine Thn.go ?_
    refine TC.seq ?_
    refine TC.condP rfl (fun h3 => ?_) (fun h3 => ?_)
    ·
      have hil : i < L.length := by omega
      obtain ⟨b1, o1, rfl⟩ := ha.some_ (by omega)
      have hcell : w2.cell? ⟨b1, o1 + i * 1, none⟩ = some L[i].1 := Rd.eltIn (f := (·.1)) (ha.ch0 hch) hil
      have hri := hr L[i] (List.getElem_mem hil)
      have hen := ents_next hil
      have hel2 := ents_le L (i + 1)
      obtain ⟨x, ex⟩ : ∃ x, L[i] = x := ⟨_, rfl⟩
      rw [ex] at hcell hri hen
      obtain ⟨xv, r⟩ := x
      replace hri : Rd w' xv 4 r.length (r.flatMap cl) := hri
      replace hen : ents (L.take (i + 1)) = ents (L.take i) ++ r := hen
      rw [hen, List.length_append] at hel2
      obtain ⟨ar, cr, rfl, _⟩ := hri.shape
      refine TC.skip ?_
      refine Thn.go ?_
      refine TC.seq ?_
      refine TC.block ?_
      refine TC.seq ?_
      refine TC.region ?_
      refine TL.indexAddr (i) sl70 rfl rfl (by first | rfl | omega) (by omega) rfl ?_
      refine TL.load pl22 rfl (hcell) rfl ?_
      refine TL.assign rfl rfl ?_
      refine TL.done ?_
      refine Thn.go ?_
      refine TC.region ?_
      refine TL.move rfl rfl ?_
      refine TL.move rfl rfl ?_
      refine TL.append sl22 rfl rfl rfl hown (News.ofRd Try.underlying22 (hri.ch0 hch) (rows_one _)) (by omega) (by omega) hch.size (fun v33 w33 hv33 hc33 _ => ?_)
      refine TL.assign rfl rfl ?_
      refine TL.done ?_
      refine Blk.go ?_
      refine Thn.go ?_
      refine TC.region ?_
      refine TL.add_i64 rfl rfl (by omega) (by omega) rfl ?_
      refine TL.move rfl rfl ?_
      refine TL.done ?_
      refine Lp.go ((i + 1, v33)) (by repeat (first | exact trivial | refine ⟨rfl, ?_⟩)) ?_ (by first | omega | (dsimp only; omega))
      exact ⟨by show i + 1 ≤ L.length; omega, by show Own w33 w'.heap.size 30 4 v33 (ents (L.take (i + 1))).length _; rw [hen, List.length_append, List.flatMap_append]; exact hv33, hown.thenCh' hch hc33 (Nat.le_refl _)⟩
    ·
      have hil : i = L.length := by omega
      subst hil
      rw [List.take_length] at hown
      refine TC.exit ?_
      refine Thn.exit ?_
      refine Lp.exit ?_
      refine Blk.hit ?_
      refine Thn.go ?_
      refine TC.seq ?_
      refine TC.region ?_
      refine TL.move rfl rfl ?_
      refine TL.assign rfl rfl ?_
      refine TL.done ?_
      refine Thn.go ?_
      refine TC.ret ?_
      refine Ends.ret [2] rfl rfl ?_
      exact ⟨hown, hch⟩

