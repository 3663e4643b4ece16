/-
  Walks through the given program: each theorem fnN says what the call of function N of the translation hands back, for all arguments that its premises describe, and that nothing that was there has turned.
-/
import Derived.Test.YteogahcefkepaaaS3
namespace Go.Proofs.Yteogahcefkepaaa
open Go.Lane
theorem can27 : Callable Try.prog 27 := ⟨Try.f27, Try.func27, by kernel_rfl, rfl⟩
theorem fd52k1 : FieldT Try.prog 52 1 3 1 1 := ⟨_, _, Try.underlying52, rfl, rfl, rfl, by kernel_rfl, by decide⟩
theorem sz3 : (Try.prog.info? 3).map (·.size) = some 1 := by kernel_rfl
/-- The new node's links, as far as they are set. -/
def arrp (h : Nat) (B : List Nd) (k : Nat) : List Value := (List.range h).map fun c => if c < k then ptrO (nxt B c) else .pointer none
theorem arrp_zero (h : Nat) (B : List Nd) : arrp h B 0 = List.replicate h (.pointer none) := by
  refine List.ext_getElem? (fun i => ?_)
  rw [arrp, List.getElem?_map, List.getElem?_replicate]
  by_cases hi : i < h
  · rw [List.getElem?_range hi, if_pos hi]; rfl
  · rw [List.getElem?_eq_none (by simpa using hi), if_neg hi]; rfl
theorem arrp_len (h : Nat) (B : List Nd) (k : Nat) : (arrp h B k).length = h := by simp [arrp]
theorem arrp_next {h : Nat} {B : List Nd} {k : Nat} (hk : k < h) : (arrp h B k).toArray.setIfInBounds k (ptrO (nxt B k)) = (arrp h B (k + 1)).toArray := by
  apply Array.toList_inj.1
  rw [Array.toList_setIfInBounds]
  refine List.ext_getElem? (fun c => ?_)
  show ((arrp h B k).set k _)[c]? = (arrp h B (k + 1))[c]?
  rw [List.getElem?_set]
  by_cases hc : c < h
  · rw [arrp, arrp, List.getElem?_map, List.getElem?_map, List.getElem?_range hc, List.length_map, List.length_range]
    by_cases hck : k = c
    · subst hck
      rw [if_pos rfl, if_pos hk]
      simp
    · rw [if_neg hck]
      simp only [Option.map_some]
      by_cases h2 : c < k
      · rw [if_pos h2, if_pos (by omega)]
      · rw [if_neg h2, if_neg (by omega)]
  · rw [if_neg (by omega), List.getElem?_eq_none (by rw [arrp_len]; omega), List.getElem?_eq_none (by rw [arrp_len]; omega)]
theorem arrp_all {n : Nd} {B : List Nd} : arrp n.h B n.h = arr n B := by
  refine List.map_congr_left (fun c hc => ?_)
  rw [if_pos (List.mem_range.1 hc)]
theorem Node.ch {w w' : World} {S : List Nat} {n : Nd} (h : Node w n) (hc : Ch S w w') (hS : n.p ∉ S) : Node w' n := Has.ch h hc hS
theorem feet_in {L : List Nd} {n : Nd} (h : n ∈ L) {b : Nat} (hb : b = n.p ∨ b = n.m) : b ∈ feet L := by
  rcases hb with e | e
  · rw [e]; exact feet_p h
  · rw [e]; exact feet_m h
theorem feet_perm (Q : Nat) (C : List Nd) (nw : Nd) (B : List Nd) : (Q :: feet (C ++ nw :: B)).Perm (nw.p :: nw.m :: Q :: feet (C ++ B)) := by
  have e : Q :: feet (C ++ nw :: B) = (Q :: feet C) ++ nw.p :: nw.m :: feet B := by simp [feet]
  have e2 : nw.p :: nw.m :: Q :: feet (C ++ B) = nw.p :: nw.m :: ((Q :: feet C) ++ feet B) := by simp [feet]
  rw [e, e2]
  exact List.perm_middle.trans (List.Perm.cons _ List.perm_middle)
/-- The blocks of two places in a row of nodes are two. -/
theorem feet_ne {Q : Nat} {L U V : List Nd} {n : Nd} (h : (Q :: feet L).Nodup) (e : L = U ++ n :: V) : (∀ u ∈ U ++ V, u.m ≠ n.m ∧ u.p ≠ n.m) ∧ n.p ≠ n.m ∧ Q ≠ n.m := by
  subst e
  have h2 := (feet_perm Q U n V).nodup_iff.1 h
  rw [List.nodup_cons, List.nodup_cons] at h2
  obtain ⟨h3, h4, _⟩ := h2
  refine ⟨fun u hu => ⟨fun e => h4 (List.mem_cons_of_mem _ (by rw [← e]; exact feet_m hu)), fun e => h4 (List.mem_cons_of_mem _ (by rw [← e]; exact feet_p hu))⟩, fun e => h3 (by simp [e]), fun e => h4 (by simp [e])⟩

theorem fn10 (Q : Nat) (hd : Nd) (N : List Nd) (x : En.Entry) (hc : En.checkE (exs N) = 0) (w : World) (hSk : Sk w Q hd N) : Rets Try.prog 10 #[.pointer (some ⟨Q, 0, none⟩), .agg (cl x).toArray] w (fun r w' => r = .int .i64 (En.putE (exs N) x : Int) ∧ (∃ N', Sk w' Q hd N' ∧ exs N' = (if En.putE (exs N) x = 0 then En.putL (exs N) x else exs N) ∧ ∀ b ∈ feet N', b ∈ feet N ∨ w.heap.size ≤ b) ∧ Ch (Q :: feet (hd :: N)) w w') := by
  obtain ⟨d, hrow⟩ := hSk.row
  have hmm : maxLen = 9223372036854775807 := rfl
  have hge : ∀ v ∈ N, 1 ≤ v.h := fun v hv => (hSk.hts v (by simp [hv])).1
  have hs := En.check_rises hc
  have hl := (En.check_zero hc).1
  rw [exs_len] at hl
  have stay : ∀ (w' : World) (e : Nat), En.putE (exs N) x = e → e ≠ 0 → Ch [] w w' → (∃ N', Sk w' Q hd N' ∧ exs N' = (if En.putE (exs N) x = 0 then En.putL (exs N) x else exs N) ∧ ∀ b ∈ feet N', b ∈ feet N ∨ w.heap.size ≤ b) ∧ Ch (Q :: feet (hd :: N)) w w' := fun w' e h1 h2 h3 => ⟨⟨N, hSk.ch0 h3, by rw [if_neg (by omega)], fun b hb => .inl hb⟩, h3.weaken (by simp)⟩
  refine Rets.of (n := 90) (vs := [_, _]) Try.func10 rfl rfl rfl ?_
  refine TC.seq ?_
  refine TC.region ?_
  refine TL.box rfl rfl (fun w3 hb3 hc3 hz3 => ?_)
  have hbx : ∀ w2, Ch [] w3 w2 → ∀ q, q < 4 → w2.cell? ⟨w.heap.size, 0 + q, none⟩ = (cl x)[q]? := fun w2 h2 q _ => by rw [(hb3.ch0 h2).cell, Nat.zero_add]; simp [Value.cells]
  refine TL.assign rfl rfl ?_
  refine TL.done ?_
  refine Thn.go ?_
  refine TC.seq ?_
  refine TC.seq ?_
  refine TC.region ?_
  refine TL.move rfl rfl ?_
  refine TL.call can24 rfl rfl (fn24 Q hd.p _ _ w3 (hrow.ch0 hc3)) (fun v11 w11 hr11 => ?_)
  obtain ⟨rfl, h11⟩ := hr11
  have hc11 : Ch [] w3 w11 := by rw [h11]; exact Ch.refl _ _
  refine TL.done ?_
  refine Thn.go ?_
  refine TC.condF rfl rfl ?_
  refine TC.skip ?_
  refine Thn.go ?_
  refine TC.seq ?_
  refine TC.seq ?_
  refine TC.region ?_
  refine TL.loadAgg (cl x) ag30 rfl rfl (fun q hq => hbx _ hc11 q hq) rfl ?_
  refine TL.buildSlice [.tmp 12] sl22 rfl rfl rfl (by decide) (by first | simp [Value.cells]; done | simp [Value.cells, cl_len]; done) rfl (fun w13 hb13 hc13 hz13 => ?_)
  refine TL.call can23 rfl rfl (fn23 _ [x] w13 (recOne hb13)) (fun v14 w14 hr14 => ?_)
  rw [En.check_one] at hr14
  obtain ⟨rfl, hc14⟩ := hr14
  have k14 : Ch [] w3 w14 := hc11.trans0 (hc13.trans0 hc14)
  refine TL.assign rfl rfl ?_
  refine TL.done ?_
  refine Thn.go ?_
  refine TC.seq ?_
  refine TC.region ?_
  refine TL.move rfl rfl ?_
  refine TL.neq rfl rfl rfl ?_
  refine TL.done ?_
  refine Thn.go ?_
  refine TC.condP rfl (fun h2 => ?_) (fun h2 => ?_)
  ·
    obtain ⟨e1, e2⟩ := En.put_one (x := x) hc (by omega)
    refine TC.seq ?_
    refine TC.region ?_
    refine TL.move rfl rfl ?_
    refine TL.assign rfl rfl ?_
    refine TL.done ?_
    refine Thn.go ?_
    refine TC.ret ?_
    refine Thn.ret ?_
    refine Ends.ret [4] rfl rfl ?_
    exact ⟨by rw [e1]; rfl, stay _ _ e1 (by omega) (hc3.trans0 k14)⟩
  ·
    have h1 : En.one x = 0 := by omega
    obtain ⟨hA, hB⟩ := split_at hs x
    have hal := En.ahead_le (exs N) x
    have hat := En.ahead_at (l := exs N) (x := x)
    rw [exs_len] at hal
    refine TC.skip ?_
    refine Thn.go ?_
    refine TC.seq ?_
    refine TC.region ?_
    refine TL.move rfl rfl ?_
    refine TL.loadAgg (cl x) ag30 rfl rfl (fun q hq => hbx _ k14 q hq) rfl ?_
    refine TL.call can25 rfl rfl (fn25 Q hd N (N.take (En.ahead (exs N) x)) (N.drop (En.ahead (exs N) x)) x w14 (hSk.ch0 (hc3.trans0 k14)) (List.take_append_drop _ N).symm hA hB) (fun v20 w20 hr20 => ?_)
    obtain ⟨cs, rfl, hcsz, hcl, hc20⟩ := hr20
    have hone : ∀ u ∈ cs.toList, u.oneCell' = true := fun u hu => by
      obtain ⟨j, hj, rfl⟩ := List.getElem_of_mem hu
      obtain ⟨n, _, h4⟩ := hcl j (by rw [Array.length_toList] at hj; omega)
      rw [Array.getElem_toList]
      rw [Array.getElem?_eq_getElem (by rw [Array.length_toList] at hj; omega)] at h4
      rw [Option.some.inj h4]; rfl
    refine TL.alloc ze57 rfl (fun w6 hb6 hc6 hz6 => ?_)
    refine TL.store sz57 rfl rfl (by simp [Value.cells, hcsz]) hb6 (by simp [Value.cells]) (by simpa [Value.cells] using hone) (.inl rfl) (fun ws1 hbs1 hcs1 hzs1 => ?_)
    replace hbs1 : Has ws1 w20.heap.size cs 57 (0, 0) := by have := hbs1.setAll (by simp [Value.cells, hcsz]); simpa [Value.cells] using this
    have k6 : Ch [] w3 ws1 := k14.trans0 (hc20.trans0 (hc6.then1 hcs1 (Nat.le_refl _)))
    have q6 := hc3.trans0 k6
    obtain ⟨m, hm⟩ : ∃ m, En.ahead (exs N) x = m := ⟨_, rfl⟩
    rw [hm] at hA hB hal hat hcl
    obtain ⟨n0, hn1, hn2⟩ := hcl 0 (by decide)
    obtain ⟨U0, hU0⟩ := hn1.zero (fun v hv => by rcases List.mem_cons.1 hv with h | h; rw [h]; exact (hSk.hts hd (by simp)).1; exact hge v (List.mem_of_mem_take h))
    have hsp0 : hd :: N = U0 ++ n0 :: N.drop m := by rw [show hd :: N = (hd :: N.take m) ++ N.drop m by rw [List.cons_append, List.take_append_drop], hU0, List.append_assoc]; rfl
    have hmem0 : n0 ∈ hd :: N := by rw [hsp0]; simp
    refine TL.done ?_
    refine Thn.go ?_
    refine TC.seq ?_
    refine TC.seq ?_
    refine TC.region ?_
    refine TL.indexArr (0) ar57 rfl rfl (by first | rfl | omega) (by omega) rfl ?_
    refine TL.load pl49 rfl ((show _ = some (Value.pointer (some ⟨n0.p, 0, none⟩)) from (hbs1.cell 0).trans hn2)) rfl ?_
    refine TL.nilCheck rfl rfl ?_
    refine TL.fieldAddr fd56k1 rfl rfl ?_
    refine TL.load pl54 rfl (((hSk.nodes n0 hmem0).ch0 q6).next) rfl ?_
    refine TL.indexAddr (0) sl54 rfl rfl rfl (by have := (hSk.hts n0 hmem0).1; omega) rfl ?_
    refine TL.load pl49 rfl ((show _ = some (ptrO (N.drop m).head?) from by rw [link_cell ((hSk.link hsp0).ch0 q6) (by have := (hSk.hts n0 hmem0).1; omega), nxt_zero (fun v hv => hge v (List.mem_of_mem_drop hv))])) rfl ?_
    obtain ⟨o, ho⟩ : ∃ o, (N.drop m).head? = o := ⟨_, rfl⟩
    rw [ho]
    refine TL.assign rfl rfl ?_
    refine TL.done ?_
    refine Thn.go ?_
    refine TC.cut0 ([(0, .pointer (some ⟨Q, 0, none⟩)), (3, .pointer (some ⟨w.heap.size, 0, none⟩)), (6, .pointer (some ⟨w20.heap.size, 0, none⟩)), (38, .bool (decide (m < N.length ∧ En.cmpE (En.rec (exs N) m) x = 0)))]) (fun w8 => Ch [] ws1 w8) (fun K3 hK3 => ?_) (fun w8 hH8 => ?_)
    ·
      refine TC.regionH (fun w8 => Ch [] ws1 w8) mixed0 ?_
      have hS : (fun w8 => Ch [] ws1 w8) _ := Ch.drew [] _
      refine TH.take (i := 0) rfl rfl rfl rfl rfl (by kernel_rfl) (by kernel_rfl) (by kernel_rfl) hS (fun w2 hw2 => TL.move rfl rfl (TL.done ⟨rfl, rfl⟩)) ?_
      refine TH.take (i := 1) rfl rfl rfl rfl rfl (by kernel_rfl) (by kernel_rfl) (by kernel_rfl) hS (fun w2 hw2 => TL.neqPtrNil Try.underlying49 rfl rfl rfl (TL.done ⟨rfl, rfl⟩)) ?_
      refine TH.em (fun e29 => ?_) (fun e29 => ?_)
      ·
        obtain ⟨j, rfl⟩ : ∃ j, o = some j := by cases o with
          | none => exact absurd rfl e29
          | some j => exact ⟨j, rfl⟩
        have hml : m < N.length := by
          rcases Nat.lt_or_ge m N.length with h | h
          · exact h
          · rw [List.drop_of_length_le h] at ho; cases ho
        have hj : N[m] = j := by rw [List.head?_drop, List.getElem?_eq_getElem hml] at ho; exact Option.some.inj ho
        have hjx : En.rec (exs N) m = j.x := by rw [rec_exs hml, hj]
        have hnode := (hSk.nodes j (by rw [← hj]; simp)).ch0 q6
        refine TH.take (i := 2) rfl rfl rfl rfl rfl (by kernel_rfl) (by kernel_rfl) (by kernel_rfl) hS (fun w2 hw2 => TL.move rfl rfl (TL.done ⟨rfl, rfl⟩)) ?_
        refine TH.takeG (i := 3) (dj := 30) rfl rfl rfl rfl rfl rfl (by kernel_rfl) (by kernel_rfl) (by kernel_rfl) hS (fun w2 hw2 => TL.move rfl rfl (TL.done ⟨rfl, rfl⟩)) ?_
        refine TH.takeG (i := 7) (dj := 30) rfl rfl rfl rfl rfl rfl (by kernel_rfl) (by kernel_rfl) (by kernel_rfl) hS (fun w2 hw2 => TL.loadAgg (cl x) ag30 rfl rfl (fun q hq => hbx _ (k6.trans0 hw2) q hq) rfl (TL.done ⟨rfl, rfl⟩)) ?_
        refine TH.oneG (i := 4) (dj := 30) (by kernel_rfl) rfl rfl rfl rfl ?_
        refine TL.nilCheck rfl rfl ?_
        have hS : (fun w8 => Ch [] ws1 w8) _ := hS
        refine TL.done ⟨hS, ?_⟩
        refine TH.takeG (i := 5) (dj := 30) rfl rfl rfl rfl rfl rfl (by kernel_rfl) (by kernel_rfl) (by kernel_rfl) hS (fun w2 hw2 => TL.fieldAddr fd56k0 rfl rfl (TL.done ⟨rfl, rfl⟩)) ?_
        refine TH.takeG (i := 6) (dj := 30) rfl rfl rfl rfl rfl rfl (by kernel_rfl) (by kernel_rfl) (by kernel_rfl) hS (fun w2 hw2 => TL.loadAgg (cl j.x) ag30 rfl rfl (fun q hq => (hnode.ch0 hw2).ent q hq) rfl (TL.done ⟨rfl, rfl⟩)) ?_
        refine TH.oneG (i := 8) (dj := 30) (by kernel_rfl) rfl rfl rfl rfl ?_
        refine TL.call can26 rfl rfl (fn26 j.x x _) (fun v36 w36 hr36 => ?_)
        obtain ⟨rfl, hc36⟩ := hr36
        have hS : (fun w8 => Ch [] ws1 w8) _ := Ch.trans0 hS hc36
        refine TL.done ⟨hS, ?_⟩
        refine TH.takeG (i := 9) (dj := 30) rfl rfl rfl rfl rfl rfl (by kernel_rfl) (by kernel_rfl) (by kernel_rfl) hS (fun w2 hw2 => TL.eql rfl rfl rfl (TL.done ⟨rfl, rfl⟩)) ?_
        refine TH.take (i := 10) rfl rfl rfl rfl rfl (by kernel_rfl) (by kernel_rfl) (by kernel_rfl) hS (fun w2 hw2 => TL.pickT rfl rfl rfl rfl (TL.done ⟨rfl, rfl⟩)) ?_
        refine TH.done (by kernel_rfl) ?_
        exact hK3  _ _ (by repeat (first | exact trivial | refine ⟨rfl, ?_⟩ | refine ⟨congrArg (fun b => some (Value.bool b)) (by first | exact (decide_eq_true (by grind)).symm | exact (decide_eq_false (by grind)).symm | exact decide_eq_decide.2 (by grind) | exact decide_eq_true (by grind) | exact decide_eq_false (by grind) | (exfalso; grind)), ?_⟩)) (hS)
      ·
        have hml : ¬ m < N.length := fun h => by rw [List.head?_drop, List.getElem?_eq_getElem h] at ho; subst ho; exact e29 (by simp)
        refine TH.take (i := 2) rfl rfl rfl rfl rfl (by kernel_rfl) (by kernel_rfl) (by kernel_rfl) hS (fun w2 hw2 => TL.move rfl rfl (TL.done ⟨rfl, rfl⟩)) ?_
        refine TH.drop (i := 3) (dj := 30) rfl rfl rfl rfl rfl rfl (by kernel_rfl) (by kernel_rfl) (by kernel_rfl) hS ?_
        refine TH.drop (i := 4) (dj := 30) rfl rfl rfl rfl rfl rfl (by kernel_rfl) (by kernel_rfl) (by kernel_rfl) hS ?_
        refine TH.drop (i := 5) (dj := 30) rfl rfl rfl rfl rfl rfl (by kernel_rfl) (by kernel_rfl) (by kernel_rfl) hS ?_
        refine TH.drop (i := 6) (dj := 30) rfl rfl rfl rfl rfl rfl (by kernel_rfl) (by kernel_rfl) (by kernel_rfl) hS ?_
        refine TH.drop (i := 7) (dj := 30) rfl rfl rfl rfl rfl rfl (by kernel_rfl) (by kernel_rfl) (by kernel_rfl) hS ?_
        refine TH.drop (i := 8) (dj := 30) rfl rfl rfl rfl rfl rfl (by kernel_rfl) (by kernel_rfl) (by kernel_rfl) hS ?_
        refine TH.drop (i := 9) (dj := 30) rfl rfl rfl rfl rfl rfl (by kernel_rfl) (by kernel_rfl) (by kernel_rfl) hS ?_
        refine TH.take (i := 10) rfl rfl rfl rfl rfl (by kernel_rfl) (by kernel_rfl) (by kernel_rfl) hS (fun w2 hw2 => TL.pickF rfl rfl rfl rfl (TL.done ⟨rfl, rfl⟩)) ?_
        refine TH.done (by kernel_rfl) ?_
        exact hK3  _ _ (by repeat (first | exact trivial | refine ⟨rfl, ?_⟩ | refine ⟨congrArg (fun b => some (Value.bool b)) (by first | exact (decide_eq_true (by grind)).symm | exact (decide_eq_false (by grind)).symm | exact decide_eq_decide.2 (by grind) | exact decide_eq_true (by grind) | exact decide_eq_false (by grind) | (exfalso; grind)), ?_⟩)) (hS)
    ·
      refine TC.condP rfl (fun h4 => ?_) (fun h4 => ?_)
      ·
        have htie : m < N.length ∧ En.cmpE (En.rec (exs N) m) x = 0 := by assumption
        obtain ⟨e1, e2⟩ := En.put_tie hc h1 (by rw [hm, exs_len]; exact ⟨htie.1, (En.cmpE_zero.1 htie.2).2⟩)
        refine TC.seq ?_
        refine TC.region ?_
        refine TL.assign rfl rfl ?_
        refine TL.done ?_
        refine Thn.go ?_
        refine TC.ret ?_
        refine Thn.ret ?_
        refine Ends.ret [4] rfl rfl ?_
        exact ⟨by rw [e1]; rfl, stay _ _ e1 (by decide) (q6.trans0 hH8)⟩
      ·
        have hno : ¬ (m < N.length ∧ En.cmpE (En.rec (exs N) m) x = 0) := by assumption
        have h2 : ¬ (En.ahead (exs N) x < (exs N).length ∧ ¬ En.less x (En.rec (exs N) (En.ahead (exs N) x))) := by rw [hm, exs_len]; exact fun ⟨h3, h4⟩ => hno ⟨h3, En.cmpE_zero.2 ⟨hat.2.resolve_left (by rw [exs_len]; omega), h4⟩⟩
        have q8 := q6.trans0 hH8
        refine TC.skip ?_
        refine Thn.go ?_
        refine TC.seq ?_
        refine TC.seq ?_
        refine TC.region ?_
        refine TL.move rfl rfl ?_
        refine TL.nilCheck rfl rfl ?_
        refine TL.fieldAddr fd52k1 rfl rfl ?_
        refine TL.load pl3 rfl ((hrow.ch0 q8).cell 1) rfl ?_
        refine TL.geq rfl rfl rfl ?_
        refine TL.done ?_
        refine Thn.go ?_
        refine TC.condP rfl (fun h5 => ?_) (fun h5 => ?_)
        ·
          obtain ⟨e1, e2⟩ := En.put_many hc h1 h2 (by rw [exs_len]; omega)
          refine TC.seq ?_
          refine TC.region ?_
          refine TL.assign rfl rfl ?_
          refine TL.done ?_
          refine Thn.go ?_
          refine TC.ret ?_
          refine Thn.ret ?_
          refine Ends.ret [4] rfl rfl ?_
          exact ⟨by rw [e1]; rfl, stay _ _ e1 (by decide) q8⟩
        ·
          obtain ⟨e1, e2⟩ := En.put_ok hc h1 h2 (by rw [exs_len]; omega)
          rw [hm] at e2
          refine TC.skip ?_
          refine Thn.go ?_
          refine TC.seq ?_
          refine TC.regionH (fun w9 => Ch [Q] w8 w9) mixed0 ?_
          have hS : (fun w9 => Ch [Q] w8 w9) _ := Ch.drew _ _
          refine TH.take (i := 0) rfl rfl rfl rfl rfl (by kernel_rfl) (by kernel_rfl) (by kernel_rfl) hS (fun w2 hw2 => TL.loadAgg (cl x) ag30 rfl rfl (fun q hq => by have h := (hb3.ch0 (k6.trans0 hH8)).ch hw2 (by simp; have := hrow.lt; omega); rw [h.cell, Nat.zero_add]; simp [Value.cells]) rfl (TL.done ⟨rfl, rfl⟩)) ?_
          refine TH.take (i := 1) rfl rfl rfl rfl rfl (by kernel_rfl) (by kernel_rfl) (by kernel_rfl) hS (fun w2 hw2 => TL.move rfl rfl (TL.done ⟨rfl, rfl⟩)) ?_
          refine TH.one (i := 2) (by kernel_rfl) rfl rfl ?_
          refine TL.call can27 rfl rfl (fn27 Q _ _ d _ ((hrow.ch0 q8).ch0 (Ch.drew [] _))) (fun v46 w46 hr46 => ?_)
          obtain ⟨⟨h, rfl, hh1, hh8⟩, ⟨d2, hrow2⟩, hc46⟩ := hr46
          have hS : (fun w9 => Ch [Q] w8 w9) _ := Ch.trans hS hc46 (fun x h _ => h) (fun x h _ => h)
          refine TL.done ⟨hS, ?_⟩
          refine TH.one (i := 3) (by kernel_rfl) rfl rfl ?_
          have z46 : w8.heap.size ≤ w46.heap.size := hS.size
          refine TL.makeSlice (h) sl54 rfl rfl rfl (by omega) (by omega) rfl (fun w47 hv47 hc47 hz47 => ?_)
          have hS : (fun w9 => Ch [Q] w8 w9) _ := Ch.trans hS hc47 (fun x h _ => h) (by simp)
          refine TL.done ⟨hS, ?_⟩
          refine TH.take (i := 4) rfl rfl rfl rfl rfl (by kernel_rfl) (by kernel_rfl) (by kernel_rfl) hS (fun w2 hw2 => TL.buildRec [0, 1] [.tmp 44, .tmp 47] (cl x ++ [Value.slice (some ⟨w46.heap.size, 0, none⟩) h h]) rfl rfl (by kernel_rfl) rfl (TL.done ⟨rfl, rfl⟩)) ?_
          refine TH.one (i := 5) (by kernel_rfl) rfl rfl ?_
          refine TL.box rfl rfl (fun w49 hb49 hc49 hz49 => ?_)
          have z47 : w8.heap.size ≤ w47.heap.size := hS.size
          have hS : (fun w9 => Ch [Q] w8 w9) _ := Ch.trans hS hc49 (fun x h _ => h) (by simp)
          refine TL.done ⟨hS, ?_⟩
          refine TH.take (i := 6) rfl rfl rfl rfl rfl (by kernel_rfl) (by kernel_rfl) (by kernel_rfl) hS (fun w2 hw2 => TL.assign rfl rfl (TL.done ⟨rfl, rfl⟩)) ?_
          refine TH.done (by kernel_rfl) ?_
          refine Thn.go ?_
          refine TC.seq ?_
          refine TC.seq ?_
          refine TC.region ?_
          have hQn : Q ∉ feet (hd :: N) := (List.nodup_cons.1 hSk.apart).1
          have hltF := hSk.lt
          have hQl : Q < w.heap.size := hltF Q (by simp)
          have zw8 : w.heap.size ≤ w8.heap.size := q8.size
          have z6 : w.heap.size ≤ w20.heap.size := (hc3.trans0 (k14.trans0 hc20)).size
          have z6' : w20.heap.size < w8.heap.size := by have := hbs1.lt; have := hH8.size; omega
          have hnw : Node w49 (⟨w47.heap.size, w46.heap.size, h, x⟩ : Nd) := hb49
          have hnodes : ∀ n ∈ hd :: N, Node w49 n := fun n hn => ((hSk.nodes n hn).ch0 q8).ch hS (fun hm => hQn (by simp at hm; rw [← hm]; exact feet_p hn))
          have hsplit : hd :: N = (hd :: N.take m) ++ N.drop m := by rw [List.cons_append, List.take_append_drop]
          have hl0 := hSk.links
          rw [hsplit] at hl0
          obtain ⟨hlA, hlB⟩ := LinksIn.app.1 hl0
          rw [List.append_nil] at hlA
          have hmQ : ∀ n ∈ hd :: N, n.m ∉ [Q] := fun n hn hm => hQn (by simp at hm; rw [← hm]; exact feet_m hn)
          have hlA9 := (hlA.ch q8 (by simp)).ch hS (fun n hn => hmQ n (by rw [hsplit]; exact List.mem_append_left _ hn))
          have hlB9 := (hlB.ch q8 (by simp)).ch hS (fun n hn => hmQ n (by rw [hsplit]; exact List.mem_append_right _ hn))
          have harr0 := (made_has hv47).ch0 hc49
          rw [← arrp_zero h (N.drop m)] at harr0
          refine TL.move rfl rfl ?_
          refine TL.nilCheck rfl rfl ?_
          refine TL.fieldAddr fd56k1 rfl rfl ?_
          refine TL.load pl54 rfl (hnw.next) rfl ?_
          refine TL.lenSlice Try.underlying54 rfl rfl ?_
          refine TL.move rfl rfl ?_
          refine TL.done ?_
          refine Thn.go ?_
          refine TC.block ?_
          refine TC.loop1 (fun (k : Nat) => [(0, .pointer (some ⟨Q, 0, none⟩)), (6, .pointer (some ⟨w20.heap.size, 0, none⟩)), (8, .pointer (some ⟨w47.heap.size, 0, none⟩)), (54, .int .i64 (h : Int)), (55, .int .i64 (k : Int))]) (fun k w' => k ≤ h ∧ Has w' w20.heap.size cs 57 (0, 0) ∧ Has w' Q #[.pointer (some ⟨hd.p, 0, none⟩), .int .i64 (N.length : Int), u32 d2] 52 (0, 0) ∧ (∀ n ∈ hd :: N, Node w' n) ∧ Node w' (⟨w47.heap.size, w46.heap.size, h, x⟩ : Nd) ∧ LinksIn w' (hd :: N.take m) (cut (⟨w47.heap.size, w46.heap.size, h, x⟩ : Nd) k :: N.drop m) ∧ LinksIn w' (N.drop m) [] ∧ Has w' w46.heap.size (arrp h (N.drop m) k).toArray 49 (0, 0) ∧ Ch (Q :: feet (hd :: N)) w8 w') (fun k => h - k) 0 (by repeat (first | exact trivial | refine ⟨rfl, ?_⟩)) (⟨by omega, (hbs1.ch0 hH8).ch hS (by simp; omega), (hrow2.ch0 hc47).ch0 hc49, hnodes, hnw, hlA9.start, hlB9, harr0, hS.weaken (by simp)⟩) (fun k w' hI => ?_)
          obtain ⟨hkh, hcs, hrw, hnd, hnn, hlka, hlkb, harr, hch⟩ := hI
          refine TC.seq ?_
          refine TC.region ?_
          refine TL.lss rfl rfl rfl ?_
          refine TL.done ?_
          refine Thn.go ?_
          refine TC.seq ?_
          refine TC.condP rfl (fun h6 => ?_) (fun h6 => ?_)
          ·
            have hkl : k < h := by omega
            obtain ⟨n, ⟨U, V, eU, hkn, hVn⟩, hcell⟩ := hcl k (by omega)
            have eN : hd :: N = U ++ n :: (V ++ N.drop m) := by rw [hsplit, eU, List.append_assoc]; rfl
            have hnm : n ∈ hd :: N := by rw [eN]; simp
            obtain ⟨hne, hnpm, hQm⟩ := feet_ne hSk.apart eN
            have hnml : n.m < w.heap.size := hltF _ (List.mem_cons_of_mem _ (feet_m hnm))
            have hdr := Ch.drew [] w'
            rw [eU] at hlka
            have hlk := hlka.at
            have hold : nxt (V ++ cut (⟨w47.heap.size, w46.heap.size, h, x⟩ : Nd) k :: N.drop m) k = nxt (N.drop m) k := by rw [nxt_app, nxt_none hVn, nxt_cons, if_neg (show ¬ k < (cut (⟨w47.heap.size, w46.heap.size, h, x⟩ : Nd) k).h from Nat.lt_irrefl k)]; rfl
            refine TC.skip ?_
            refine Thn.go ?_
            refine TC.seq ?_
            refine TC.block ?_
            refine TC.seq ?_
            refine TC.region ?_
            refine TL.move rfl rfl ?_
            refine TL.assign rfl rfl ?_
            refine TL.done ?_
            refine Thn.go ?_
            refine TC.regionH (fun w6 => Ch [w46.heap.size, n.m] w' w6) mixed0 ?_
            have hS : (fun w6 => Ch [w46.heap.size, n.m] w' w6) _ := Ch.drew _ _
            refine TH.take (i := 0) rfl rfl rfl rfl rfl (by kernel_rfl) (by kernel_rfl) (by kernel_rfl) hS (fun w2 hw2 => TL.move rfl rfl (TL.done ⟨rfl, rfl⟩)) ?_
            refine TH.takeNil (i := 1) rfl rfl rfl (by kernel_rfl) (by kernel_rfl) (by kernel_rfl) hS ?_
            refine TH.take (i := 2) rfl rfl rfl rfl rfl (by kernel_rfl) (by kernel_rfl) (by kernel_rfl) hS (fun w2 hw2 => TL.fieldAddr fd56k1 rfl rfl (TL.done ⟨rfl, rfl⟩)) ?_
            refine TH.take (i := 3) rfl rfl rfl rfl rfl (by kernel_rfl) (by kernel_rfl) (by kernel_rfl) hS (fun w2 hw2 => TL.load pl54 rfl ((hnn.ch hw2 (by show w47.heap.size ∉ _; simp; omega)).next) rfl (TL.done ⟨rfl, rfl⟩)) ?_
            refine TH.take (i := 4) rfl rfl rfl rfl rfl (by kernel_rfl) (by kernel_rfl) (by kernel_rfl) hS (fun w2 hw2 => TL.move rfl rfl (TL.done ⟨rfl, rfl⟩)) ?_
            refine TH.take (i := 5) rfl rfl rfl rfl rfl (by kernel_rfl) (by kernel_rfl) (by kernel_rfl) hS (fun w2 hw2 => TL.move rfl rfl (TL.done ⟨rfl, rfl⟩)) ?_
            refine TH.take (i := 6) rfl rfl rfl rfl rfl (by kernel_rfl) (by kernel_rfl) (by kernel_rfl) hS (fun w2 hw2 => TL.indexArr (k) ar57 rfl rfl (by first | rfl | omega) (by omega) rfl (TL.done ⟨rfl, rfl⟩)) ?_
            refine TH.take (i := 7) rfl rfl rfl rfl rfl (by kernel_rfl) (by kernel_rfl) (by kernel_rfl) hS (fun w2 hw2 => TL.load pl49 rfl ((show _ = some (Value.pointer (some ⟨n.p, 0, none⟩)) from by rw [Nat.mul_one, (hcs.ch hw2 (by simp; omega)).cell, Nat.zero_add]; exact hcell)) rfl (TL.done ⟨rfl, rfl⟩)) ?_
            refine TH.takeNil (i := 8) rfl rfl rfl (by kernel_rfl) (by kernel_rfl) (by kernel_rfl) hS ?_
            refine TH.take (i := 9) rfl rfl rfl rfl rfl (by kernel_rfl) (by kernel_rfl) (by kernel_rfl) hS (fun w2 hw2 => TL.fieldAddr fd56k1 rfl rfl (TL.done ⟨rfl, rfl⟩)) ?_
            refine TH.take (i := 10) rfl rfl rfl rfl rfl (by kernel_rfl) (by kernel_rfl) (by kernel_rfl) hS (fun w2 hw2 => TL.load pl54 rfl (((hnd n hnm).ch hw2 (by have := hltF n.p (List.mem_cons_of_mem _ (feet_p hnm)); simp; exact ⟨by omega, hnpm⟩)).next) rfl (TL.done ⟨rfl, rfl⟩)) ?_
            refine TH.take (i := 11) rfl rfl rfl rfl rfl (by kernel_rfl) (by kernel_rfl) (by kernel_rfl) hS (fun w2 hw2 => TL.move rfl rfl (TL.done ⟨rfl, rfl⟩)) ?_
            refine TH.take (i := 12) rfl rfl rfl rfl rfl (by kernel_rfl) (by kernel_rfl) (by kernel_rfl) hS (fun w2 hw2 => TL.move rfl rfl (TL.done ⟨rfl, rfl⟩)) ?_
            refine TH.take (i := 13) rfl rfl rfl rfl rfl (by kernel_rfl) (by kernel_rfl) (by kernel_rfl) hS (fun w2 hw2 => TL.indexArr (k) ar57 rfl rfl (by first | rfl | omega) (by omega) rfl (TL.done ⟨rfl, rfl⟩)) ?_
            refine TH.take (i := 14) rfl rfl rfl rfl rfl (by kernel_rfl) (by kernel_rfl) (by kernel_rfl) hS (fun w2 hw2 => TL.load pl49 rfl ((show _ = some (Value.pointer (some ⟨n.p, 0, none⟩)) from by rw [Nat.mul_one, (hcs.ch hw2 (by simp; omega)).cell, Nat.zero_add]; exact hcell)) rfl (TL.done ⟨rfl, rfl⟩)) ?_
            refine TH.takeNil (i := 15) rfl rfl rfl (by kernel_rfl) (by kernel_rfl) (by kernel_rfl) hS ?_
            refine TH.take (i := 16) rfl rfl rfl rfl rfl (by kernel_rfl) (by kernel_rfl) (by kernel_rfl) hS (fun w2 hw2 => TL.fieldAddr fd56k1 rfl rfl (TL.done ⟨rfl, rfl⟩)) ?_
            refine TH.take (i := 17) rfl rfl rfl rfl rfl (by kernel_rfl) (by kernel_rfl) (by kernel_rfl) hS (fun w2 hw2 => TL.load pl54 rfl (((hnd n hnm).ch hw2 (by have := hltF n.p (List.mem_cons_of_mem _ (feet_p hnm)); simp; exact ⟨by omega, hnpm⟩)).next) rfl (TL.done ⟨rfl, rfl⟩)) ?_
            refine TH.take (i := 18) rfl rfl rfl rfl rfl (by kernel_rfl) (by kernel_rfl) (by kernel_rfl) hS (fun w2 hw2 => TL.move rfl rfl (TL.done ⟨rfl, rfl⟩)) ?_
            refine TH.take (i := 19) rfl rfl rfl rfl rfl (by kernel_rfl) (by kernel_rfl) (by kernel_rfl) hS (fun w2 hw2 => TL.indexAddr (k) sl54 rfl rfl (by first | rfl | omega) (by omega) rfl (TL.done ⟨rfl, rfl⟩)) ?_
            refine TH.take (i := 21) rfl rfl rfl rfl rfl (by kernel_rfl) (by kernel_rfl) (by kernel_rfl) hS (fun w2 hw2 => TL.move rfl rfl (TL.done ⟨rfl, rfl⟩)) ?_
            refine TH.one (i := 20) (by kernel_rfl) rfl rfl ?_
            refine TL.load pl49 rfl ((show _ = some (ptrO (nxt (N.drop m) k)) from by rw [link_cell (hlk.ch0 hdr) hkn, hold])) rfl ?_
            have hS : (fun w6 => Ch [w46.heap.size, n.m] w' w6) _ := hS
            refine TL.done ⟨hS, ?_⟩
            refine TH.take (i := 22) rfl rfl rfl rfl rfl (by kernel_rfl) (by kernel_rfl) (by kernel_rfl) hS (fun w2 hw2 => TL.indexAddr (k) sl54 rfl rfl (by first | rfl | omega) (by omega) rfl (TL.done ⟨rfl, rfl⟩)) ?_
            refine TH.one (i := 23) (by kernel_rfl) rfl rfl ?_
            refine TL.store sz49 rfl rfl rfl (harr.ch0 hdr) (by rw [List.size_toArray, arrp_len]; omega) (by simp [ptrO, Value.cells, Value.oneCell']) (.inl rfl) (fun ws2 hbs2 hcs2 hzs2 => ?_)
            replace hbs2 : Has ws2 w46.heap.size (arrp h (N.drop m) (k + 1)).toArray 49 (0, 0) := by rw [Nat.zero_add, Nat.mul_one] at hbs2; have := hbs2.setOne rfl (by rw [List.size_toArray, arrp_len]; omega); rwa [arrp_next hkl] at this
            have hS : (fun w6 => Ch [w46.heap.size, n.m] w' w6) _ := Ch.trans hS hcs2 (fun x h _ => h) (fun x h _ => by simp at h; simp [h])
            refine TL.done ⟨hS, ?_⟩
            refine TH.take (i := 24) rfl rfl rfl rfl rfl (by kernel_rfl) (by kernel_rfl) (by kernel_rfl) hS (fun w2 hw2 => TL.indexAddr (k) sl54 rfl rfl (by first | rfl | omega) (by omega) rfl (TL.done ⟨rfl, rfl⟩)) ?_
            refine TH.one (i := 25) (by kernel_rfl) rfl rfl ?_
            refine TL.store sz49 rfl rfl rfl ((hlk.ch0 hdr).ch hcs2 (by simp; omega)) (by rw [List.size_toArray, arr_len]; omega) (by simp [Value.cells, Value.oneCell']) (.inl rfl) (fun ws3 hbs3 hcs3 hzs3 => ?_)
            replace hbs3 : Has ws3 n.m ((arr n (V ++ cut (⟨w47.heap.size, w46.heap.size, h, x⟩ : Nd) k :: N.drop m)).toArray.setIfInBounds k (.pointer (some ⟨w47.heap.size, 0, none⟩))) 49 (0, 0) := by rw [Nat.zero_add, Nat.mul_one] at hbs3; exact hbs3.setOne rfl (by rw [List.size_toArray, arr_len]; omega)
            have hmA : ∀ u ∈ U ++ n :: V, u.m ∉ [w46.heap.size] := fun u hu hm => by have := hltF u.m (List.mem_cons_of_mem _ (feet_m (by rw [hsplit, eU]; exact List.mem_append_left _ hu))); simp at hm; omega
            have hst := LinksIn.step ((hlka.ch hdr (by simp)).ch hcs2 hmA) hkn hVn hbs3 hcs3 (fun u hu => (hne u (by simp at hu ⊢; rcases hu with hu | hu; exact .inl hu; exact .inr (.inl hu))).1)
            have hS : (fun w6 => Ch [w46.heap.size, n.m] w' w6) _ := Ch.trans hS hcs3 (fun x h _ => h) (fun x h _ => by simp at h; simp [h])
            refine TL.done ⟨hS, ?_⟩
            refine TH.done (by kernel_rfl) ?_
            refine Blk.go ?_
            refine Thn.go ?_
            refine TC.region ?_
            refine TL.add_i64 rfl rfl (by omega) (by omega) rfl ?_
            refine TL.move rfl rfl ?_
            refine TL.done ?_
            refine Lp.go (k + 1) (by repeat (first | exact trivial | refine ⟨rfl, ?_⟩)) ?_ (by first | omega | (dsimp only; omega))
            refine ⟨by omega, ((hcs.ch0 hdr).ch hcs2 (by simp; omega)).ch hcs3 (by simp; omega), ((hrw.ch0 hdr).ch hcs2 (by simp; omega)).ch hcs3 (by simp; exact hQm), fun u hu => ?_, ((hnn.ch0 hdr).ch hcs2 (by show w47.heap.size ∉ _; simp; omega)).ch hcs3 (by show w47.heap.size ∉ _; simp; omega), by rw [eU]; exact hst, ?_, hbs2.ch hcs3 (by simp; omega), ?_⟩
            · have hul := hltF u.p (List.mem_cons_of_mem _ (feet_p hu))
              refine (((hnd u hu).ch0 hdr).ch hcs2 (by simp; omega)).ch hcs3 ?_
              simp
              rw [eN] at hu
              rcases List.mem_append.1 hu with h7 | h7
              · exact (hne u (List.mem_append_left _ h7)).2
              · rcases List.mem_cons.1 h7 with h8 | h8
                · rw [h8]; exact hnpm
                · exact (hne u (List.mem_append_right _ h8)).2
            · refine ((hlkb.ch hdr (by simp)).ch hcs2 (fun u hu hm => ?_)).ch hcs3 (fun u hu hm => ?_)
              · have := hltF u.m (List.mem_cons_of_mem _ (feet_m (by rw [hsplit]; exact List.mem_append_right _ hu))); simp at hm; omega
              · exact (hne u (by simp [hu])).1 (by simpa using hm)
            · exact ((hch.trans hdr (fun x h _ => h) (by simp)).trans hcs2 (fun x h _ => h) (fun x h hlt => by simp at h; omega)).trans hcs3 (fun x h _ => h) (fun x h _ => by simp at h; rw [h]; exact List.mem_cons_of_mem _ (feet_m hnm))
          ·
            have hkl : k = h := by omega
            subst hkl
            refine TC.exit ?_
            refine Thn.exit ?_
            refine Lp.exit ?_
            refine Blk.hit ?_
            refine Thn.go ?_
            refine TC.seq ?_
            refine TC.region ?_
            refine TL.move rfl rfl ?_
            refine TL.nilCheck rfl rfl ?_
            refine TL.fieldAddr fd52k1 rfl rfl ?_
            refine TL.load pl3 rfl (hrw.cell 1) rfl ?_
            refine TL.add_i64 rfl rfl (by omega) (by omega) rfl ?_
            refine TL.nilCheck rfl rfl ?_
            refine TL.fieldAddr fd52k1 rfl rfl ?_
            refine TL.store sz3 rfl rfl rfl hrw (by simp) (by simp [Value.cells, Value.oneCell']) (.inl rfl) (fun ws4 hbs4 hcs4 hzs4 => ?_)
            replace hbs4 : Has ws4 Q #[.pointer (some ⟨hd.p, 0, none⟩), .int .i64 ((N.length : Int) + 1), u32 d2] 52 (0, 0) := hbs4
            have hp47 : ∀ n ∈ hd :: N, n.p ≠ Q ∧ n.m ≠ Q := fun n hn => ⟨fun e => hQn (by rw [← e]; exact feet_p hn), fun e => hQn (by rw [← e]; exact feet_m hn)⟩
            have hperm := feet_perm Q (hd :: N.take m) (⟨w47.heap.size, w46.heap.size, k, x⟩ : Nd) (N.drop m)
            have hSk2 : Sk ws4 Q hd (N.take m ++ (⟨w47.heap.size, w46.heap.size, k, x⟩ : Nd) :: N.drop m) := by
              refine ⟨⟨d2, ?_⟩, fun n hn => ?_, ?_, fun n hn => ?_, hSk.hdh, ?_⟩
              · rw [show (((N.take m ++ (⟨w47.heap.size, w46.heap.size, k, x⟩ : Nd) :: N.drop m).length : Nat) : Int) = (N.length : Int) + 1 by simp; omega]; exact hbs4
              · have : n ∈ hd :: N ∨ n = (⟨w47.heap.size, w46.heap.size, k, x⟩ : Nd) := by
                  rcases List.mem_cons.1 hn with h7 | h7
                  · exact .inl (by rw [h7]; simp)
                  · rcases List.mem_append.1 h7 with h8 | h8
                    · exact .inl (List.mem_cons_of_mem _ (List.mem_of_mem_take h8))
                    · rcases List.mem_cons.1 h8 with h9 | h9
                      · exact .inr h9
                      · exact .inl (List.mem_cons_of_mem _ (List.mem_of_mem_drop h9))
                rcases this with h7 | h7
                · exact (hnd n h7).ch hcs4 (by simp; exact (hp47 n h7).1)
                · rw [h7]; exact hnn.ch hcs4 (by show w47.heap.size ∉ _; simp; omega)
              · rw [← List.cons_append]
                refine LinksIn.app.2 ⟨?_, ?_, ?_⟩
                · rw [List.append_nil]
                  exact hlka.ch hcs4 (fun n hn => by simp; exact (hp47 n (by rw [hsplit]; exact List.mem_append_left _ hn)).2)
                · have h7 := harr.ch hcs4 (by simp; omega)
                  rw [show arrp k (N.drop m) k = arr (⟨w47.heap.size, w46.heap.size, k, x⟩ : Nd) (N.drop m) from arrp_all (n := (⟨w47.heap.size, w46.heap.size, k, x⟩ : Nd))] at h7
                  rw [List.append_nil]; exact h7
                · exact hlkb.ch hcs4 (fun n hn => by simp; exact (hp47 n (by rw [hsplit]; exact List.mem_append_right _ hn)).2)
              · rcases List.mem_cons.1 hn with h7 | h7
                · rw [h7]; exact hSk.hts hd (by simp)
                · rcases List.mem_append.1 h7 with h8 | h8
                  · exact hSk.hts n (List.mem_cons_of_mem _ (List.mem_of_mem_take h8))
                  · rcases List.mem_cons.1 h8 with h9 | h9
                    · rw [h9]; exact ⟨hh1, hh8⟩
                    · exact hSk.hts n (List.mem_cons_of_mem _ (List.mem_of_mem_drop h9))
              · rw [← List.cons_append, hperm.nodup_iff, List.nodup_cons, List.nodup_cons]
                rw [← hsplit]
                refine ⟨fun h7 => ?_, fun h7 => ?_, hSk.apart⟩
                · rcases List.mem_cons.1 h7 with h8 | h8
                  · have h8 : w47.heap.size = w46.heap.size := h8; omega
                  · have := hltF _ h8; have h9 : w47.heap.size < w.heap.size := this; omega
                · have := hltF _ h7; have h9 : w46.heap.size < w.heap.size := this; omega
            have hex : exs (N.take m ++ (⟨w47.heap.size, w46.heap.size, k, x⟩ : Nd) :: N.drop m) = (exs N).take m ++ ([x] ++ (exs N).drop m) := by simp [exs, List.map_take, List.map_drop]
            refine TL.done ?_
            refine Thn.go ?_
            refine TC.seq ?_
            refine TC.region ?_
            refine TL.assign rfl rfl ?_
            refine TL.done ?_
            refine Thn.go ?_
            refine TC.ret ?_
            refine Ends.ret [4] rfl rfl ?_
            refine ⟨by rw [e1]; rfl, ⟨_, hSk2, by rw [if_pos e1, e2, hex], fun b hb => ?_⟩, ?_⟩
            · rw [feet_app] at hb
              have hft : feet N = feet (N.take m) ++ feet (N.drop m) := by rw [← feet_app, List.take_append_drop]
              rw [hft]
              rcases List.mem_append.1 hb with h7 | h7
              · exact .inl (List.mem_append_left _ h7)
              · have h7 : b ∈ w47.heap.size :: w46.heap.size :: feet (N.drop m) := h7
                rcases List.mem_cons.1 h7 with h8 | h8
                · right; omega
                · rcases List.mem_cons.1 h8 with h9 | h9
                  · right; omega
                  · exact .inl (List.mem_append_right _ h9)
            · exact (q8.trans hch (by simp) (fun x h _ => h)).trans hcs4 (fun x h _ => h) (fun x h _ => by simp at h; simp [h])

