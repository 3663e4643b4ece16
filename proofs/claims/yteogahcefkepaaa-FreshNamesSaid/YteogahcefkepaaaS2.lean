/-
  Walks through the given program: each theorem fnN says what the call of function N of the translation hands back, for all arguments that its premises describe, and that nothing that was there has turned.
-/
import Derived.Test.YteogahcefkepaaaS1
namespace Go.Proofs.Yteogahcefkepaaa
open Go.Lane
theorem ag57 : AggT Try.prog 57 8 := ⟨⟨_, Try.underlying57, rfl⟩, by kernel_rfl⟩
theorem ar57 : ArrT Try.prog 57 8 49 1 := ⟨Try.underlying57, by kernel_rfl, by decide⟩
theorem fd56k0 : FieldT Try.prog 56 0 30 0 4 := ⟨_, _, Try.underlying56, rfl, rfl, rfl, by kernel_rfl, by decide⟩
theorem fd56k1 : FieldT Try.prog 56 1 54 4 1 := ⟨_, _, Try.underlying56, rfl, rfl, rfl, by kernel_rfl, by decide⟩
theorem pl54 : Plain Try.prog 54 := ⟨_, Try.underlying54, rfl⟩
theorem sz49 : (Try.prog.info? 49).map (·.size) = some 1 := by kernel_rfl
theorem sz57 : (Try.prog.info? 57).map (·.size) = some 8 := by kernel_rfl
theorem ze57 : ZeroT Try.prog 57 (.agg (Array.replicate 8 (.pointer none))) := by unfold ZeroT; kernel_rfl
/-- There is a next one, and it stands ahead. -/
def goP (o : Option Nd) (x : En.Entry) : Prop := ∃ j, o = some j ∧ En.less j.x x
instance (o : Option Nd) (x : En.Entry) : Decidable (goP o x) := match o with
  | none => isFalse (fun ⟨_, h, _⟩ => by cases h)
  | some j => decidable_of_iff (En.less j.x x) ⟨fun h => ⟨j, rfl, h⟩, fun ⟨_, h, h2⟩ => by cases h; exact h2⟩
theorem Node.ch0 {w w' : World} {n : Nd} (h : Node w n) (hc : Ch [] w w') : Node w' n := Has.ch0 h hc
theorem Node.next {w : World} {n : Nd} (h : Node w n) : w.cell? ⟨n.p, 0 + 4, none⟩ = some (.slice (some ⟨n.m, 0, none⟩) n.h n.h) := Has.cell h 4
theorem Node.ent {w : World} {n : Nd} (h : Node w n) (q : Nat) (hq : q < 4) : w.cell? ⟨n.p, 0 + 0 + q, none⟩ = (cl n.x)[q]? := by
  have := Has.cell h q
  rw [List.getElem?_toArray] at this
  simp only [Nat.zero_add] at this ⊢
  rw [List.getElem?_append_left (by rw [cl_len]; exact hq)] at this
  exact this
theorem link_cell {w : World} {n : Nd} {V : List Nd} (h : Has w n.m (arr n V).toArray 49 (0, 0)) {k : Nat} (hk : k < n.h) : w.cell? ⟨n.m, 0 + k * 1, none⟩ = some (ptrO (nxt V k)) := by
  rw [Nat.mul_one, h.cell, List.getElem?_toArray, Nat.zero_add, arr_at hk]
theorem ptrO_nil {o : Option Nd} : ptrO o = .pointer none ↔ o = none := by cases o <;> simp [ptrO]
theorem Sk.link {w : World} {Q : Nat} {hd : Nd} {N U V : List Nd} {n : Nd} (h : Sk w Q hd N) (e : hd :: N = U ++ n :: V) : Has w n.m (arr n V).toArray 49 (0, 0) := by
  have := h.links
  rw [e] at this
  have := this.at
  rwa [List.append_nil] at this
theorem nxt_in {V : List Nd} {k : Nat} {j : Nd} (h : nxt V k = some j) : k < j.h ∧ ∃ V1 V2, V = V1 ++ j :: V2 ∧ ∀ v ∈ V1, ¬ k < v.h := by
  obtain ⟨h1, V1, V2, h2, h3⟩ := List.find?_eq_some_iff_append.1 h
  exact ⟨by simpa using h1, V1, V2, h2, fun v hv => by simpa using h3 v hv⟩

theorem fn25 (Q : Nat) (hd : Nd) (N A B : List Nd) (x : En.Entry) (w : World) (hSk : Sk w Q hd N) (hN : N = A ++ B) (hA : ∀ n ∈ A, En.less n.x x) (hB : ∀ n ∈ B, ¬ En.less n.x x) : Rets Try.prog 25 #[.pointer (some ⟨Q, 0, none⟩), .agg (cl x).toArray] w (fun r w' => ∃ cs : Array Value, r = .agg cs ∧ cs.size = 8 ∧ (∀ k, k < 8 → ∃ n, Last (hd :: A) k n ∧ cs[k]? = some (.pointer (some ⟨n.p, 0, none⟩))) ∧ Ch [] w w') := by
  obtain ⟨d, hrow⟩ := hSk.row
  refine Rets.of (n := 48) (vs := [_, _]) Try.func25 rfl rfl rfl ?_
  refine TC.seq ?_
  refine TC.region ?_
  refine TL.box rfl rfl (fun w3 hb3 hc3 hz3 => ?_)
  have hbx : ∀ w2, Ch [] w3 w2 → ∀ q, q < 4 → w2.cell? ⟨w.heap.size, 0 + q, none⟩ = (cl x)[q]? := fun w2 h2 q _ => by rw [(hb3.ch0 h2).cell, Nat.zero_add]; simp [Value.cells]
  refine TL.alloc ze57 rfl (fun w4 hb4 hc4 hz4 => ?_)
  have q4 := hc3.trans0 hc4
  refine TL.done ?_
  refine Thn.go ?_
  refine TC.seq ?_
  refine TC.region ?_
  refine TL.move rfl rfl ?_
  refine TL.nilCheck rfl rfl ?_
  refine TL.fieldAddr fd52k0 rfl rfl ?_
  refine TL.load pl49 rfl ((hrow.ch0 q4).cell 0) rfl ?_
  refine TL.assign rfl rfl ?_
  refine TL.done ?_
  refine Thn.go ?_
  refine TC.seq ?_
  refine TC.seq ?_
  refine TC.region ?_
  refine TL.assign rfl rfl ?_
  refine TL.done ?_
  refine Thn.go ?_
  refine TC.block ?_
  refine TC.loop2 (fun (k : Nat) (cur : Nd) => [(3, .pointer (some ⟨w.heap.size, 0, none⟩)), (4, .pointer (some ⟨w3.heap.size, 0, none⟩)), (5, .pointer (some ⟨cur.p, 0, none⟩)), (6, .int .i64 ((k : Int) - 1))]) (fun k cur w' => k ≤ 8 ∧ (∃ U V, hd :: A = U ++ cur :: V ∧ k ≤ cur.h ∧ ∀ v ∈ V, ¬ k < v.h) ∧ (∃ cs : Array Value, Has w' w3.heap.size cs 57 (0, 0) ∧ cs.size = 8 ∧ ∀ j, k ≤ j → j < 8 → ∃ n, Last (hd :: A) j n ∧ cs[j]? = some (.pointer (some ⟨n.p, 0, none⟩))) ∧ Ch [] w3 w') (fun k _ => k) 8 hd (by repeat (first | exact trivial | refine ⟨rfl, ?_⟩)) (⟨by omega, ⟨[], A, rfl, by rw [hSk.hdh]; omega, fun v hv h => by have := (hSk.hts v (by rw [hN]; simp [hv])).2; omega⟩, ⟨_, hb4, rfl, fun j h1 h2 => by omega⟩, hc4⟩) (fun k cur w' hI => ?_)
  obtain ⟨hk8, hcur, ⟨cs, hcs, hcsz, hcl⟩, hch⟩ := hI
  refine TC.seq ?_
  refine TC.seq ?_
  refine TC.region ?_
  refine TL.move rfl rfl ?_
  refine TL.geq rfl rfl rfl ?_
  refine TL.done ?_
  refine Thn.go ?_
  refine TC.condP rfl (fun h1 => ?_) (fun h1 => ?_)
  ·
    have hk1 : 1 ≤ k := by omega
    obtain ⟨U0, V0, e0', h0', hv0⟩ := hcur
    refine TC.skip ?_
    refine Thn.go ?_
    refine TC.seq ?_
    refine TC.block ?_
    refine TC.seq ?_
    refine TC.block ?_
    refine TC.loop2 (fun (r : Nat) (c2 : Nd) => [(3, .pointer (some ⟨w.heap.size, 0, none⟩)), (4, .pointer (some ⟨w3.heap.size, 0, none⟩)), (5, .pointer (some ⟨c2.p, 0, none⟩)), (6, .int .i64 ((k : Int) - 1))]) (fun r c2 wa => (∃ U V, hd :: A = U ++ c2 :: V ∧ k ≤ c2.h ∧ V.length = r) ∧ Ch [] w' wa) (fun r _ => r) V0.length cur (by repeat (first | exact trivial | refine ⟨rfl, ?_⟩)) (⟨⟨U0, V0, e0', h0', rfl⟩, Ch.refl _ _⟩) (fun r c2 wa hJ => ?_)
    obtain ⟨⟨U, V, eU, hc2, hVr⟩, hcha⟩ := hJ
    have qa : Ch [] w wa := hc3.trans0 (hch.trans0 hcha)
    have hmem : c2 ∈ hd :: N := by rw [hN, ← List.cons_append, eU]; simp
    have hnode : Node wa c2 := (hSk.nodes c2 hmem).ch0 qa
    have hlink : Has wa c2.m (arr c2 (V ++ B)).toArray 49 (0, 0) := (hSk.link (by rw [hN, ← List.cons_append, eU, List.append_assoc, List.cons_append])).ch0 qa
    have hkc : k - 1 < c2.h := by omega
    obtain ⟨o, ho⟩ : ∃ o, nxt (V ++ B) (k - 1) = o := ⟨_, rfl⟩
    have hjn : ∀ j, o = some j → Node wa j := fun j hj => by
      rw [hj] at ho
      obtain ⟨_, V1, V2, e, _⟩ := nxt_in ho
      exact (hSk.nodes j (by rw [hN, ← List.cons_append, eU, List.append_assoc, List.cons_append, e]; simp)).ch0 qa
    refine TC.seq ?_
    refine TC.cut0 ([(3, .pointer (some ⟨w.heap.size, 0, none⟩)), (4, .pointer (some ⟨w3.heap.size, 0, none⟩)), (5, .pointer (some ⟨c2.p, 0, none⟩)), (6, .int .i64 ((k : Int) - 1)), (36, .bool (decide (goP o x)))]) (fun wb => Ch [] wa wb) (fun K2 hK2 => ?_) (fun wb hH5 => ?_)
    ·
      refine TC.regionH (fun wb => Ch [] wa wb) mixed0 ?_
      have hS : (fun wb => Ch [] wa wb) _ := Ch.drew [] _
      refine TH.take (i := 0) rfl rfl rfl rfl rfl (by kernel_rfl) (by kernel_rfl) (by kernel_rfl) hS (fun w2 hw2 => TL.move rfl rfl (TL.done ⟨rfl, rfl⟩)) ?_
      refine TH.takeNil (i := 1) rfl rfl rfl (by kernel_rfl) (by kernel_rfl) (by kernel_rfl) hS ?_
      refine TH.take (i := 2) rfl rfl rfl rfl rfl (by kernel_rfl) (by kernel_rfl) (by kernel_rfl) hS (fun w2 hw2 => TL.fieldAddr fd56k1 rfl rfl (TL.done ⟨rfl, rfl⟩)) ?_
      refine TH.take (i := 3) rfl rfl rfl rfl rfl (by kernel_rfl) (by kernel_rfl) (by kernel_rfl) hS (fun w2 hw2 => TL.load pl54 rfl ((hnode.ch0 hw2).next) rfl (TL.done ⟨rfl, rfl⟩)) ?_
      refine TH.take (i := 4) rfl rfl rfl rfl rfl (by kernel_rfl) (by kernel_rfl) (by kernel_rfl) hS (fun w2 hw2 => TL.move rfl rfl (TL.done ⟨rfl, rfl⟩)) ?_
      refine TH.take (i := 5) rfl rfl rfl rfl rfl (by kernel_rfl) (by kernel_rfl) (by kernel_rfl) hS (fun w2 hw2 => TL.indexAddr (k - 1) sl54 rfl rfl (by first | rfl | omega) (by omega) rfl (TL.done ⟨rfl, rfl⟩)) ?_
      refine TH.take (i := 6) rfl rfl rfl rfl rfl (by kernel_rfl) (by kernel_rfl) (by kernel_rfl) hS (fun w2 hw2 => TL.load pl49 rfl ((show _ = some (ptrO o) from by rw [link_cell (hlink.ch0 hw2) hkc, ho])) rfl (TL.done ⟨rfl, rfl⟩)) ?_
      refine TH.take (i := 7) rfl rfl rfl rfl rfl (by kernel_rfl) (by kernel_rfl) (by kernel_rfl) hS (fun w2 hw2 => TL.neqPtrNil Try.underlying49 rfl rfl rfl (TL.done ⟨rfl, rfl⟩)) ?_
      refine TH.em (fun e22 => ?_) (fun e22 => ?_)
      ·
        obtain ⟨j, rfl⟩ : ∃ j, o = some j := by cases o with
          | none => exact absurd rfl e22
          | some j => exact ⟨j, rfl⟩
        have hgo : goP (some j) x ↔ En.less j.x x := ⟨fun ⟨_, e, h⟩ => by cases e; exact h, fun h => ⟨j, rfl, h⟩⟩
        refine TH.take (i := 8) rfl rfl rfl rfl rfl (by kernel_rfl) (by kernel_rfl) (by kernel_rfl) hS (fun w2 hw2 => TL.move rfl rfl (TL.done ⟨rfl, rfl⟩)) ?_
        refine TH.takeG (i := 9) (dj := 23) rfl rfl rfl rfl rfl rfl (by kernel_rfl) (by kernel_rfl) (by kernel_rfl) hS (fun w2 hw2 => TL.move rfl rfl (TL.done ⟨rfl, rfl⟩)) ?_
        refine TH.takeG (i := 13) (dj := 23) rfl rfl rfl rfl rfl rfl (by kernel_rfl) (by kernel_rfl) (by kernel_rfl) hS (fun w2 hw2 => TL.move rfl rfl (TL.done ⟨rfl, rfl⟩)) ?_
        refine TH.takeG (i := 19) (dj := 23) rfl rfl rfl rfl rfl rfl (by kernel_rfl) (by kernel_rfl) (by kernel_rfl) hS (fun w2 hw2 => TL.loadAgg (cl x) ag30 rfl rfl (fun q hq => hbx _ ((hch.trans0 hcha).trans0 hw2) q hq) rfl (TL.done ⟨rfl, rfl⟩)) ?_
        refine TH.oneG (i := 10) (dj := 23) (by kernel_rfl) rfl rfl rfl rfl ?_
        refine TL.nilCheck rfl rfl ?_
        have hS : (fun wb => Ch [] wa wb) _ := hS
        refine TL.done ⟨hS, ?_⟩
        refine TH.takeG (i := 11) (dj := 23) rfl rfl rfl rfl rfl rfl (by kernel_rfl) (by kernel_rfl) (by kernel_rfl) hS (fun w2 hw2 => TL.fieldAddr fd56k1 rfl rfl (TL.done ⟨rfl, rfl⟩)) ?_
        refine TH.takeG (i := 12) (dj := 23) rfl rfl rfl rfl rfl rfl (by kernel_rfl) (by kernel_rfl) (by kernel_rfl) hS (fun w2 hw2 => TL.load pl54 rfl ((hnode.ch0 hw2).next) rfl (TL.done ⟨rfl, rfl⟩)) ?_
        refine TH.takeG (i := 14) (dj := 23) rfl rfl rfl rfl rfl rfl (by kernel_rfl) (by kernel_rfl) (by kernel_rfl) hS (fun w2 hw2 => TL.indexAddr (k - 1) sl54 rfl rfl (by first | rfl | omega) (by omega) rfl (TL.done ⟨rfl, rfl⟩)) ?_
        refine TH.takeG (i := 15) (dj := 23) rfl rfl rfl rfl rfl rfl (by kernel_rfl) (by kernel_rfl) (by kernel_rfl) hS (fun w2 hw2 => TL.load pl49 rfl ((show _ = some (ptrO (some j)) from by rw [link_cell (hlink.ch0 hw2) hkc, ho])) rfl (TL.done ⟨rfl, rfl⟩)) ?_
        refine TH.oneG (i := 16) (dj := 23) (by kernel_rfl) rfl rfl rfl rfl ?_
        refine TL.nilCheck rfl rfl ?_
        have hS : (fun wb => Ch [] wa wb) _ := hS
        refine TL.done ⟨hS, ?_⟩
        refine TH.takeG (i := 17) (dj := 23) rfl rfl rfl rfl rfl rfl (by kernel_rfl) (by kernel_rfl) (by kernel_rfl) hS (fun w2 hw2 => TL.fieldAddr fd56k0 rfl rfl (TL.done ⟨rfl, rfl⟩)) ?_
        refine TH.takeG (i := 18) (dj := 23) rfl rfl rfl rfl rfl rfl (by kernel_rfl) (by kernel_rfl) (by kernel_rfl) hS (fun w2 hw2 => TL.loadAgg (cl j.x) ag30 rfl rfl (fun q hq => ((hjn j rfl).ch0 hw2).ent q hq) rfl (TL.done ⟨rfl, rfl⟩)) ?_
        refine TH.oneG (i := 20) (dj := 23) (by kernel_rfl) rfl rfl rfl rfl ?_
        refine TL.call can35 rfl rfl (fn35 j.x x _) (fun v35 w35 hr35 => ?_)
        obtain ⟨rfl, hc35⟩ := hr35
        have hS : (fun wb => Ch [] wa wb) _ := Ch.trans0 hS hc35
        refine TL.done ⟨hS, ?_⟩
        refine TH.take (i := 21) rfl rfl rfl rfl rfl (by kernel_rfl) (by kernel_rfl) (by kernel_rfl) hS (fun w2 hw2 => TL.pickT rfl rfl rfl rfl (TL.done ⟨rfl, rfl⟩)) ?_
        refine TH.done (by kernel_rfl) ?_
        exact hK2  _ _ (by repeat (first | exact trivial | refine ⟨rfl, ?_⟩ | refine ⟨congrArg (fun b => some (Value.bool b)) (by first | exact (decide_eq_true (by grind)).symm | exact (decide_eq_false (by grind)).symm | exact decide_eq_decide.2 (by grind) | exact decide_eq_true (by grind) | exact decide_eq_false (by grind) | (exfalso; grind)), ?_⟩)) (hS)
      ·
        have hgn : ¬ goP o x := fun ⟨j, e, _⟩ => by subst e; exact e22 (by simp)
        refine TH.take (i := 8) rfl rfl rfl rfl rfl (by kernel_rfl) (by kernel_rfl) (by kernel_rfl) hS (fun w2 hw2 => TL.move rfl rfl (TL.done ⟨rfl, rfl⟩)) ?_
        refine TH.drop (i := 9) (dj := 23) rfl rfl rfl rfl rfl rfl (by kernel_rfl) (by kernel_rfl) (by kernel_rfl) hS ?_
        refine TH.drop (i := 10) (dj := 23) rfl rfl rfl rfl rfl rfl (by kernel_rfl) (by kernel_rfl) (by kernel_rfl) hS ?_
        refine TH.drop (i := 11) (dj := 23) rfl rfl rfl rfl rfl rfl (by kernel_rfl) (by kernel_rfl) (by kernel_rfl) hS ?_
        refine TH.drop (i := 12) (dj := 23) rfl rfl rfl rfl rfl rfl (by kernel_rfl) (by kernel_rfl) (by kernel_rfl) hS ?_
        refine TH.drop (i := 13) (dj := 23) rfl rfl rfl rfl rfl rfl (by kernel_rfl) (by kernel_rfl) (by kernel_rfl) hS ?_
        refine TH.drop (i := 14) (dj := 23) rfl rfl rfl rfl rfl rfl (by kernel_rfl) (by kernel_rfl) (by kernel_rfl) hS ?_
        refine TH.drop (i := 15) (dj := 23) rfl rfl rfl rfl rfl rfl (by kernel_rfl) (by kernel_rfl) (by kernel_rfl) hS ?_
        refine TH.drop (i := 16) (dj := 23) rfl rfl rfl rfl rfl rfl (by kernel_rfl) (by kernel_rfl) (by kernel_rfl) hS ?_
        refine TH.drop (i := 17) (dj := 23) rfl rfl rfl rfl rfl rfl (by kernel_rfl) (by kernel_rfl) (by kernel_rfl) hS ?_
        refine TH.drop (i := 18) (dj := 23) rfl rfl rfl rfl rfl rfl (by kernel_rfl) (by kernel_rfl) (by kernel_rfl) hS ?_
        refine TH.drop (i := 19) (dj := 23) rfl rfl rfl rfl rfl rfl (by kernel_rfl) (by kernel_rfl) (by kernel_rfl) hS ?_
        refine TH.drop (i := 20) (dj := 23) rfl rfl rfl rfl rfl rfl (by kernel_rfl) (by kernel_rfl) (by kernel_rfl) hS ?_
        refine TH.take (i := 21) rfl rfl rfl rfl rfl (by kernel_rfl) (by kernel_rfl) (by kernel_rfl) hS (fun w2 hw2 => TL.pickF rfl rfl rfl rfl (TL.done ⟨rfl, rfl⟩)) ?_
        refine TH.done (by kernel_rfl) ?_
        exact hK2  _ _ (by repeat (first | exact trivial | refine ⟨rfl, ?_⟩ | refine ⟨congrArg (fun b => some (Value.bool b)) (by first | exact (decide_eq_true (by grind)).symm | exact (decide_eq_false (by grind)).symm | exact decide_eq_decide.2 (by grind) | exact decide_eq_true (by grind) | exact decide_eq_false (by grind) | (exfalso; grind)), ?_⟩)) (hS)
    ·
      refine TC.condP rfl (fun h3 => ?_) (fun h3 => ?_)
      ·
        obtain ⟨j, hoj, hless⟩ : goP o x := by assumption
        subst hoj
        obtain ⟨hkj, V1, V2, eV, hV1⟩ := nxt_in ho
        obtain ⟨V3, eV3⟩ : ∃ V3, V = V1 ++ j :: V3 := by
          rcases List.append_eq_append_iff.1 eV with ⟨a', h1, h2⟩ | ⟨c', h1, h2⟩
          · exact absurd hless (hB j (by rw [h2]; simp))
          · cases c' with
            | nil => exact absurd hless (hB j (by rw [← List.nil_append B, ← h2]; simp))
            | cons y c'' =>
              simp only [List.cons_append, List.cons.injEq] at h2
              exact ⟨c'', by rw [h1, ← h2.1]⟩
        have hlen : V3.length < r := by rw [← hVr, eV3]; simp; omega
        refine TC.skip ?_
        refine Thn.go ?_
        refine TC.block ?_
        refine TC.region ?_
        refine TL.move rfl rfl ?_
        refine TL.nilCheck rfl rfl ?_
        refine TL.fieldAddr fd56k1 rfl rfl ?_
        refine TL.load pl54 rfl ((hnode.ch0 hH5).next) rfl ?_
        refine TL.move rfl rfl ?_
        refine TL.indexAddr (k - 1) sl54 rfl rfl (by first | rfl | omega) (by omega) rfl ?_
        refine TL.load pl49 rfl ((show _ = some (ptrO (some j)) from by rw [link_cell (hlink.ch0 hH5) hkc, ho])) rfl ?_
        refine TL.assign rfl rfl ?_
        refine TL.done ?_
        refine Blk.go ?_
        refine Lp.go ((V3.length, j)) (by repeat (first | exact trivial | refine ⟨rfl, ?_⟩)) ?_ (by first | omega | (dsimp only; omega))
        exact ⟨⟨U ++ c2 :: V1, V3, by rw [eU, eV3]; simp, by show k ≤ j.h; omega, rfl⟩, hcha.trans0 hH5⟩
      ·
        have hno : ¬ goP o x := by assumption
        have hVn : ∀ v ∈ V, ¬ k - 1 < v.h := fun v hv hh => by
          obtain ⟨j, hj⟩ := nxt_some hv hh
          have hjV : j ∈ V := List.mem_of_find?_eq_some hj
          have hjA : j ∈ A := by
            cases U with
            | nil => simp only [List.nil_append, List.cons.injEq] at eU; rw [eU.2]; exact hjV
            | cons y U' => simp only [List.cons_append, List.cons.injEq] at eU; rw [eU.2]; simp [hjV]
          exact hno ⟨j, by rw [← ho, nxt_app, hj]; rfl, hA j hjA⟩
        have hcs5 := (hcs.ch0 hcha).ch0 hH5
        refine TC.exit ?_
        refine Thn.exit ?_
        refine Lp.exit ?_
        refine Blk.hit ?_
        refine Thn.go ?_
        refine TC.region ?_
        refine TL.move rfl rfl ?_
        refine TL.move rfl rfl ?_
        refine TL.indexArr (k - 1) ar57 rfl rfl (by first | rfl | omega) (by omega) rfl ?_
        refine TL.store sz49 rfl rfl rfl hcs5 (by omega) (by simp [Value.cells, Value.oneCell']) (.inl rfl) (fun ws1 hbs1 hcs1 hzs1 => ?_)
        replace hbs1 : Has ws1 w3.heap.size (cs.setIfInBounds (k - 1) (.pointer (some ⟨c2.p, 0, none⟩))) 57 (0, 0) := by rw [Nat.zero_add, Nat.mul_one] at hbs1; exact hbs1.setOne rfl (by omega)
        refine TL.done ?_
        refine Blk.go ?_
        refine Thn.go ?_
        refine TC.region ?_
        refine TL.move rfl rfl ?_
        refine TL.sub_i64 rfl rfl (by omega) (by omega) rfl ?_
        rw [show (k : Int) - 1 - 1 = ((k - 1 : Nat) : Int) - 1 by omega]
        refine TL.assign rfl rfl ?_
        refine TL.done ?_
        refine Lp.go ((k - 1, c2)) (by repeat (first | exact trivial | refine ⟨rfl, ?_⟩)) ?_ (by first | omega | (dsimp only; omega))
        refine ⟨by show k - 1 ≤ 8; omega, ⟨U, V, eU, by show k - 1 ≤ c2.h; omega, hVn⟩, ⟨_, hbs1, by simp [hcsz], fun j h1 h2 => ?_⟩, (hch.trans0 (hcha.trans0 hH5)).then1 hcs1 (Nat.le_refl _)⟩
        by_cases hjk : j = k - 1
        · rw [hjk]
          exact ⟨c2, ⟨U, V, eU, hkc, hVn⟩, by rw [Array.getElem?_setIfInBounds_self_of_lt (by omega)]⟩
        · obtain ⟨n, h3, h4⟩ := hcl j (by have : k - 1 ≤ j := h1; omega) h2
          exact ⟨n, h3, by rw [Array.getElem?_setIfInBounds_ne (fun e => hjk e.symm)]; exact h4⟩
  ·
    have hk0 : k = 0 := by omega
    subst hk0
    have hone : ∀ u ∈ cs.toList, u.oneCell' = true := fun u hu => by
      obtain ⟨j, hj, rfl⟩ := List.getElem_of_mem hu
      obtain ⟨n, _, h4⟩ := hcl j (by omega) (by rw [Array.length_toList] at hj; omega)
      rw [Array.getElem_toList]
      rw [Array.getElem?_eq_getElem (by rw [Array.length_toList] at hj; omega)] at h4
      rw [Option.some.inj h4]; rfl
    refine TC.exit ?_
    refine Thn.exit ?_
    refine Lp.exit ?_
    refine Blk.hit ?_
    refine Thn.go ?_
    refine TC.seq ?_
    refine TC.region ?_
    refine TL.loadAgg cs.toList ag57 rfl (by simpa using hcsz) (fun q _ => by rw [hcs.cell]; simp) rfl ?_
    refine TL.store sz57 rfl rfl (by simp [Value.cells, hcsz]) hcs (by simp [hcsz]) (by simpa [Value.cells] using hone) (.inl rfl) (fun ws2 hbs2 hcs2 hzs2 => ?_)
    replace hbs2 : Has ws2 w3.heap.size cs 57 (0, 0) := by have := hbs2.setAll (by simp [Value.cells]); simpa [Value.cells] using this
    refine TL.done ?_
    refine Thn.go ?_
    refine TC.ret ?_
    refine Ends.cell cs.toList (.inl rfl) rfl ag57 rfl (by simpa using hcsz) (fun q _ => by rw [hbs2.cell]; simp) ?_
    exact ⟨cs, by simp, hcsz, fun j hj => hcl j (by omega) hj, hc3.trans0 (hch.then1 hcs2 (Nat.le_refl _))⟩

