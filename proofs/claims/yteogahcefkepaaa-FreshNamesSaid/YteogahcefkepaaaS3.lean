/-
  Walks through the given program: each theorem fnN says what the call of function N of the translation hands back, for all arguments that its premises describe, and that nothing that was there has turned.
-/
import Derived.Test.YteogahcefkepaaaS2
namespace Go.Proofs.Yteogahcefkepaaa
open Go.Lane
theorem av57 : ArrV Try.prog 57 8 49 := ⟨Try.underlying57, ⟨_, Try.underlying49, rfl⟩, by kernel_rfl⟩
theorem can24 : Callable Try.prog 24 := ⟨Try.f24, Try.func24, by kernel_rfl, rfl⟩
theorem can25 : Callable Try.prog 25 := ⟨Try.f25, Try.func25, by kernel_rfl, rfl⟩
/-- The entries of nodes. -/
def exs (N : List Nd) : List En.Entry := N.map (·.x)
theorem exs_len (N : List Nd) : (exs N).length = N.length := by simp [exs]
theorem rec_exs {N : List Nd} {i : Nat} (h : i < N.length) : En.rec (exs N) i = N[i].x := by
  rw [← En.rec_eq (by rw [exs_len]; exact h)]; simp [exs]
theorem exs_next {N : List Nd} {i : Nat} (h : i < N.length) : exs (N.take (i + 1)) = exs (N.take i) ++ [N[i].x] := by
  rw [exs, exs, List.take_add_one, List.getElem?_eq_getElem h, List.map_append]; rfl
theorem nxt_zero {V : List Nd} (h : ∀ v ∈ V, 1 ≤ v.h) : nxt V 0 = V.head? := by
  cases V with
  | nil => rfl
  | cons v r => rw [nxt_cons, if_pos (by have := h v (by simp); omega)]; rfl
theorem split_at {N : List Nd} (hs : (exs N).Pairwise En.less) (x : En.Entry) : (∀ n ∈ N.take (En.ahead (exs N) x), En.less n.x x) ∧ ∀ n ∈ N.drop (En.ahead (exs N) x), ¬ En.less n.x x := by
  obtain ⟨h1, h2⟩ := En.ahead_at (l := exs N) (x := x)
  have hle := En.ahead_le (exs N) x
  rw [exs_len] at hle
  refine ⟨fun n hn => ?_, fun n hn hl => ?_⟩
  · obtain ⟨i, hi, rfl⟩ := List.getElem_of_mem hn
    rw [List.length_take] at hi
    have := h1 i (by omega)
    rw [rec_exs (by omega)] at this
    rwa [List.getElem_take]
  · obtain ⟨i, hi, rfl⟩ := List.getElem_of_mem hn
    rw [List.length_drop] at hi
    rw [List.getElem_drop, ← rec_exs (by omega)] at hl
    rcases h2 with h2 | h2
    · rw [exs_len] at h2; omega
    · exact h2 (En.less_mono hs (by omega) (by rw [exs_len]; omega) hl)
theorem Last.zero {A : List Nd} {n : Nd} (h : Last A 0 n) (hh : ∀ v ∈ A, 1 ≤ v.h) : ∃ U, A = U ++ [n] := by
  obtain ⟨U, V, e, _, hV⟩ := h
  cases V with
  | nil => exact ⟨U, e⟩
  | cons v r => exact absurd (hh v (by rw [e]; simp)) (by have := hV v (by simp); omega)

theorem fn14 (Q : Nat) (hd : Nd) (N : List Nd) (hl : N.length ≤ 100000) (w : World) (hSk : Sk w Q hd N) : Rets Try.prog 14 #[.pointer (some ⟨Q, 0, none⟩)] w (fun r w' => ∃ o, r = .tuple #[o, .int .i64 0] ∧ Own w' w.heap.size 30 4 o (exs N).length ((exs N).flatMap cl) ∧ Ch [] w w') := by
  obtain ⟨d, hrow⟩ := hSk.row
  have hmm : maxLen = 9223372036854775807 := rfl
  have hge : ∀ v ∈ N, 1 ≤ v.h := fun v hv => (hSk.hts v (by simp [hv])).1
  refine Rets.of (n := 33) (vs := [_]) Try.func14 rfl rfl rfl ?_
  refine TC.seq ?_
  refine TC.region ?_
  refine TL.assign rfl rfl ?_
  refine TL.assign rfl rfl ?_
  refine TL.done ?_
  refine Thn.go ?_
  refine TC.seq ?_
  refine TC.seq ?_
  refine TC.region ?_
  refine TL.move rfl rfl ?_
  refine TL.call can24 rfl rfl (fn24 Q hd.p _ _ w hrow) (fun v7 w7 hr7 => ?_)
  obtain ⟨rfl, rfl⟩ := hr7
  refine TL.done ?_
  refine Thn.go ?_
  refine TC.condF rfl rfl ?_
  refine TC.skip ?_
  refine Thn.go ?_
  refine TC.seq ?_
  refine TC.region ?_
  refine TL.assign rfl rfl ?_
  refine TL.done ?_
  refine Thn.go ?_
  refine TC.seq ?_
  refine TC.seq ?_
  refine TC.region ?_
  refine TL.move rfl rfl ?_
  refine TL.nilCheck rfl rfl ?_
  refine TL.fieldAddr fd52k0 rfl rfl ?_
  refine TL.load pl49 rfl (hrow.cell 0) rfl ?_
  refine TL.nilCheck rfl rfl ?_
  refine TL.fieldAddr fd56k1 rfl rfl ?_
  refine TL.load pl54 rfl ((hSk.nodes hd (by simp)).next) rfl ?_
  refine TL.indexAddr (0) sl54 rfl rfl rfl (by rw [hSk.hdh]; decide) rfl ?_
  refine TL.load pl49 rfl ((show _ = some (ptrO N.head?) from by rw [link_cell (hSk.link (U := []) rfl) (by rw [hSk.hdh]; decide), nxt_zero hge])) rfl ?_
  refine TL.assign rfl rfl ?_
  refine TL.done ?_
  refine Thn.go ?_
  refine TC.block ?_
  refine TC.loop2 (fun (i : Nat) (ov : Value) => [(4, ov), (5, ptrO (N.drop i).head?)]) (fun i ov w' => i ≤ N.length ∧ Own w' w7.heap.size 30 4 ov (exs (N.take i)).length ((exs (N.take i)).flatMap cl) ∧ Ch [] w7 w') (fun i _ => N.length - i) 0 (.slice none 0 0) (by repeat (first | exact trivial | refine ⟨rfl, ?_⟩)) (⟨by omega, World.ownsRow_nil _ _ _ _, Ch.refl _ _⟩) (fun i ov w' hI => ?_)
  obtain ⟨hi, hown, hch⟩ := hI
  have hel : (exs (N.take i)).length = i := by rw [exs_len, List.length_take]; omega
  obtain ⟨o, ho⟩ : ∃ o, (N.drop i).head? = o := ⟨_, rfl⟩
  rw [ho]
  refine TC.seq ?_
  refine TC.seq ?_
  refine TC.region ?_
  refine TL.move rfl rfl ?_
  refine TL.neqPtrNil Try.underlying49 rfl rfl rfl ?_
  refine TL.done ?_
  refine Thn.go ?_
  refine TC.condP rfl (fun h2 => ?_) (fun h2 => ?_)
  ·
    obtain ⟨j, rfl⟩ : ∃ j, o = some j := by cases o with
      | none => exact absurd rfl (by assumption)
      | some j => exact ⟨j, rfl⟩
    have hil : i < N.length := by
      rcases Nat.lt_or_ge i N.length with h | h
      · exact h
      · rw [List.drop_of_length_le h] at ho; cases ho
    have hj : N[i] = j := by rw [List.head?_drop, List.getElem?_eq_getElem hil] at ho; exact Option.some.inj ho
    have hen := exs_next hil
    rw [hj] at hen
    have hmem : j ∈ hd :: N := by rw [← hj]; simp
    have hnode := (hSk.nodes j hmem).ch0 hch
    have hsp : hd :: N = (hd :: N.take i) ++ j :: N.drop (i + 1) := by rw [← hj, List.cons_append, List.getElem_cons_drop, List.take_append_drop]
    refine TC.skip ?_
    refine Thn.go ?_
    refine TC.seq ?_
    refine TC.block ?_
    refine TC.region ?_
    refine TL.move rfl rfl ?_
    refine TL.move rfl rfl ?_
    refine TL.nilCheck rfl rfl ?_
    refine TL.fieldAddr fd56k0 rfl rfl ?_
    refine TL.loadAgg (cl j.x) ag30 rfl rfl (fun q hq => hnode.ent q hq) rfl ?_
    refine TL.buildSlice [.tmp 29] sl22 rfl rfl rfl (by decide) (by first | simp [Value.cells]; done | simp [Value.cells, cl_len]; done) rfl (fun w30 hb30 hc30 hz30 => ?_)
    refine TL.append sl22 rfl rfl rfl (hown.ch0 hc30) (News.ofRd Try.underlying22 (recOne hb30) (rows_one _)) (by omega) (by omega) (by have := hch.size; have := hc30.size; omega) (fun v31 w31 hv31 hc31 _ => ?_)
    have q31 : Ch [] w7 w31 := (hown.ch0 hc30).thenCh' (hch.trans0 hc30) hc31 (Nat.le_refl _)
    refine TL.assign rfl rfl ?_
    refine TL.done ?_
    refine Blk.go ?_
    refine Thn.go ?_
    refine TC.region ?_
    refine TL.move rfl rfl ?_
    refine TL.nilCheck rfl rfl ?_
    refine TL.fieldAddr fd56k1 rfl rfl ?_
    refine TL.load pl54 rfl (((hSk.nodes j hmem).ch0 q31).next) rfl ?_
    refine TL.indexAddr (0) sl54 rfl rfl rfl (by have := (hSk.hts j hmem).1; omega) rfl ?_
    refine TL.load pl49 rfl ((show _ = some (ptrO (N.drop (i + 1)).head?) from by rw [link_cell ((hSk.link hsp).ch0 q31) (by have := (hSk.hts j hmem).1; omega), nxt_zero (fun v hv => hge v (List.mem_of_mem_drop hv))])) rfl ?_
    refine TL.assign rfl rfl ?_
    refine TL.done ?_
    refine Lp.go ((i + 1, v31)) (by repeat (first | exact trivial | refine ⟨rfl, ?_⟩)) ?_ (by first | omega | (dsimp only; omega))
    exact ⟨by show i + 1 ≤ N.length; omega, by show Own w31 w7.heap.size 30 4 v31 (exs (N.take (i + 1))).length _; rw [hen, List.length_append, List.flatMap_append]; exact hv31, q31⟩
  ·
    have hil : i = N.length := by
      rcases Nat.lt_or_ge i N.length with h | h
      · rw [List.head?_drop, List.getElem?_eq_getElem h] at ho; subst ho; exact absurd (by assumption) (by simp)
      · omega
    subst hil
    rw [List.take_length] at hown
    refine TC.exit ?_
    refine Thn.exit ?_
    refine Lp.exit ?_
    refine Blk.hit ?_
    refine Thn.go ?_
    refine TC.seq ?_
    refine TC.region ?_
    refine TL.move rfl rfl ?_
    refine TL.assign rfl rfl ?_
    refine TL.assign rfl rfl ?_
    refine TL.done ?_
    refine Thn.go ?_
    refine TC.ret ?_
    refine Ends.ret [2, 3] rfl rfl ?_
    exact ⟨_, rfl, hown, hch⟩

theorem fn12 (Q : Nat) (hd : Nd) (N : List Nd) (k : List UInt8) (q : Int) (hc : En.checkE (exs N) = 0) (w : World) (hSk : Sk w Q hd N) : Rets Try.prog 12 #[.pointer (some ⟨Q, 0, none⟩), str k, .int .i64 q] w (fun r w' => r = .tuple #[.agg (cl ((En.findX (exs N) k q).getD e0)).toArray, .bool (En.findX (exs N) k q).isSome, .int .i64 (En.findE (exs N) k q : Int)] ∧ Ch [] w w') := by
  obtain ⟨d, hrow⟩ := hSk.row
  have hmm : maxLen = 9223372036854775807 := rfl
  have hge : ∀ v ∈ N, 1 ≤ v.h := fun v hv => (hSk.hts v (by simp [hv])).1
  have hs := En.check_rises hc
  refine Rets.of (n := 48) (vs := [_, _, _]) Try.func12 rfl rfl rfl ?_
  refine TC.seq ?_
  refine TC.region ?_
  refine TL.alloc ze30 rfl (fun w6 hb6 hc6 hz6 => ?_)
  refine TL.assign rfl rfl ?_
  refine TL.assign rfl rfl ?_
  refine TL.done ?_
  refine Thn.go ?_
  refine TC.seq ?_
  refine TC.seq ?_
  refine TC.region ?_
  refine TL.move rfl rfl ?_
  refine TL.call can24 rfl rfl (fn24 Q hd.p _ _ w6 (hrow.ch0 hc6)) (fun v12 w12 hr12 => ?_)
  obtain ⟨rfl, rfl⟩ := hr12
  refine TL.done ?_
  refine Thn.go ?_
  refine TC.condF rfl rfl ?_
  refine TC.skip ?_
  refine Thn.go ?_
  refine TC.seq ?_
  refine TC.seq ?_
  refine TC.region ?_
  refine TL.move rfl rfl ?_
  refine TL.move rfl rfl ?_
  refine TL.call can30 rfl rfl (fn30 k q _) (fun v16 w16 hr16 => ?_)
  obtain ⟨rfl, rfl⟩ := hr16
  refine TL.assign rfl rfl ?_
  refine TL.done ?_
  refine Thn.go ?_
  refine TC.seq ?_
  refine TC.region ?_
  refine TL.move rfl rfl ?_
  refine TL.neq rfl rfl rfl ?_
  refine TL.done ?_
  refine Thn.go ?_
  refine TC.condP rfl (fun h2 => ?_) (fun h2 => ?_)
  ·
    obtain ⟨e1, e2⟩ := En.find_ask hc (k := k) (n := q) (by omega)
    refine TC.seq ?_
    refine TC.region ?_
    refine TL.buildRec [] [] (cl e0) rfl rfl (by kernel_rfl) rfl ?_
    refine TL.move rfl rfl ?_
    refine TL.store sz30 rfl rfl rfl hb6 (by simp [Value.cells]) (by simpa [Value.cells] using cl_one e0) (.inl rfl) (fun ws1 hbs1 hcs1 hzs1 => ?_)
    replace hbs1 : Has ws1 w.heap.size (cl e0).toArray 30 (0, 0) := hbs1.setAll rfl
    refine TL.assign rfl rfl ?_
    refine TL.assign rfl rfl ?_
    refine TL.done ?_
    refine Thn.go ?_
    refine TC.ret ?_
    refine Thn.ret ?_
    refine Ends.cell3 (cl e0) (.inl rfl) rfl ag30 rfl rfl (fun j _ => by rw [hbs1.cell, Nat.zero_add, List.getElem?_toArray]) rfl rfl ?_
    exact ⟨by rw [e1, e2]; rfl, hc6.then1 hcs1 (Nat.le_refl _)⟩
  ·
    obtain ⟨e1, e2⟩ := En.find_ok hc (k := k) (n := q) (by omega)
    have hnw := En.newest_at hs k q
    obtain ⟨hA, hB⟩ := split_at hs (En.ask k q)
    have hal := En.ahead_le (exs N) (En.ask k q)
    obtain ⟨m, hm⟩ : ∃ m, En.ahead (exs N) (En.ask k q) = m := ⟨_, rfl⟩
    rw [hm] at hnw hA hB hal
    rw [exs_len] at hal hnw
    refine TC.skip ?_
    refine Thn.go ?_
    refine TC.seq ?_
    refine TC.seq ?_
    refine TC.region ?_
    refine TL.move rfl rfl ?_
    refine TL.move rfl rfl ?_
    refine TL.move rfl rfl ?_
    refine TL.buildRec [0, 2] [.tmp 22, .tmp 23] (cl (En.ask k q)) rfl rfl (by kernel_rfl) rfl ?_
    refine TL.call can25 rfl rfl (fn25 Q hd N (N.take m) (N.drop m) (En.ask k q) _ (hSk.ch0 hc6) (List.take_append_drop m N).symm hA hB) (fun v25 w25 hr25 => ?_)
    obtain ⟨cs, rfl, hcsz, hcl, hc25⟩ := hr25
    obtain ⟨n, hn1, hn2⟩ := hcl 0 (by decide)
    obtain ⟨U, hU⟩ := hn1.zero (fun v hv => by rcases List.mem_cons.1 hv with h | h; rw [h]; exact (hSk.hts hd (by simp)).1; exact hge v (List.mem_of_mem_take h))
    have hsp : hd :: N = U ++ n :: N.drop m := by rw [show hd :: N = (hd :: N.take m) ++ N.drop m by rw [List.cons_append, List.take_append_drop], hU, List.append_assoc]; rfl
    have hmem : n ∈ hd :: N := by rw [hsp]; simp
    have q25 := hc6.trans0 hc25
    refine TL.index (0) av57 rfl rfl rfl (by decide) hn2 rfl ?_
    refine TL.nilCheck rfl rfl ?_
    refine TL.fieldAddr fd56k1 rfl rfl ?_
    refine TL.load pl54 rfl (((hSk.nodes n hmem).ch0 q25).next) rfl ?_
    refine TL.indexAddr (0) sl54 rfl rfl rfl (by have := (hSk.hts n hmem).1; omega) rfl ?_
    refine TL.load pl49 rfl ((show _ = some (ptrO (N.drop m).head?) from by rw [link_cell ((hSk.link hsp).ch0 q25) (by have := (hSk.hts n hmem).1; omega), nxt_zero (fun v hv => hge v (List.mem_of_mem_drop hv))])) rfl ?_
    obtain ⟨o, ho⟩ : ∃ o, (N.drop m).head? = o := ⟨_, rfl⟩
    rw [ho]
    refine TL.assign rfl rfl ?_
    refine TL.done ?_
    refine Thn.go ?_
    refine TC.regionBool (d := 42) (p := (m < N.length ∧ (En.rec (exs N) m).key = k)) (fun K3 hK3 => ?_) ?_
    ·
      refine TL.move rfl rfl ?_
      refine TL.neqPtrNil Try.underlying49 rfl rfl rfl ?_
      refine TL.em (fun e33 => ?_) (fun e33 => ?_)
      ·
        obtain ⟨j, rfl⟩ : ∃ j, o = some j := by cases o with
          | none => exact absurd rfl e33
          | some j => exact ⟨j, rfl⟩
        have hml : m < N.length := by
          rcases Nat.lt_or_ge m N.length with h | h
          · exact h
          · rw [List.drop_of_length_le h] at ho; cases ho
        have hj : N[m] = j := by rw [List.head?_drop, List.getElem?_eq_getElem hml] at ho; exact Option.some.inj ho
        have hjx : En.rec (exs N) m = j.x := by rw [rec_exs hml, hj]
        have hnode := (hSk.nodes j (by rw [← hj]; simp)).ch0 q25
        refine TL.move rfl rfl ?_
        refine TL.guardYes (d := 34) rfl rfl rfl ?_
        refine TL.move rfl rfl ?_
        refine TL.guardYes (d := 34) rfl rfl rfl ?_
        refine TL.nilCheck rfl rfl ?_
        refine TL.guardYes (d := 34) rfl rfl rfl ?_
        refine TL.fieldAddr fd56k0 rfl rfl ?_
        refine TL.guardYes (d := 34) rfl rfl rfl ?_
        refine TL.fieldAddr fd30k0 rfl rfl ?_
        refine TL.guardYes (d := 34) rfl rfl rfl ?_
        refine TL.load pl9 rfl ((show _ = some (str j.x.key) from hnode.ent 0 (by decide))) rfl ?_
        refine TL.guardYes (d := 34) rfl rfl rfl ?_
        refine TL.move rfl rfl ?_
        refine TL.guardYes (d := 34) rfl rfl rfl ?_
        refine TL.eqlStr rfl rfl rfl ?_
        refine TL.pickT rfl rfl rfl rfl ?_
        refine TL.done ?_
        refine hK3 _ ?_
        refine Le.here rfl (by first | exact decide_eq_true (by omega) | exact decide_eq_false (by omega) | exact decide_eq_decide.2 (by omega) | exact decide_eq_true (by grind) | exact decide_eq_false (by grind) | exact decide_eq_decide.2 (by grind)) ?_
        repeat (first | exact Le.refl _ | refine Le.skip rfl ?_)
      ·
        have hml : ¬ m < N.length := fun h => by rw [List.head?_drop, List.getElem?_eq_getElem h] at ho; subst ho; exact e33 (by simp)
        refine TL.move rfl rfl ?_
        refine TL.guardNo (d := 34) rfl rfl rfl rfl rfl ?_
        refine TL.guardNo (d := 34) rfl rfl rfl rfl rfl ?_
        refine TL.guardNo (d := 34) rfl rfl rfl rfl rfl ?_
        refine TL.guardNo (d := 34) rfl rfl rfl rfl rfl ?_
        refine TL.guardNo (d := 34) rfl rfl rfl rfl rfl ?_
        refine TL.guardNo (d := 34) rfl rfl rfl rfl rfl ?_
        refine TL.guardNo (d := 34) rfl rfl rfl rfl rfl ?_
        refine TL.pickF rfl rfl rfl rfl ?_
        refine TL.done ?_
        refine hK3 _ ?_
        refine Le.here rfl (by first | exact decide_eq_true (by omega) | exact decide_eq_false (by omega) | exact decide_eq_decide.2 (by omega) | exact decide_eq_true (by grind) | exact decide_eq_false (by grind) | exact decide_eq_decide.2 (by grind)) ?_
        repeat (first | exact Le.refl _ | refine Le.skip rfl ?_)
    refine TC.condP rfl (fun h5 => ?_) (fun h5 => ?_)
    ·
      have hyes : m < N.length ∧ (En.rec (exs N) m).key = k := by assumption
      rw [if_pos hyes] at hnw
      have ho2 : o = some N[m] := by rw [← ho, List.head?_drop, List.getElem?_eq_getElem hyes.1]
      obtain ⟨j, hj⟩ : ∃ j, N[m] = j := ⟨_, rfl⟩
      have hjx : En.rec (exs N) m = j.x := by rw [rec_exs hyes.1, hj]
      rw [hj] at ho2
      subst ho2
      have hnode := (hSk.nodes j (by rw [← hj]; simp)).ch0 q25
      refine TC.seq ?_
      refine TC.region ?_
      refine TL.move rfl rfl ?_
      refine TL.nilCheck rfl rfl ?_
      refine TL.fieldAddr fd56k0 rfl rfl ?_
      refine TL.loadAgg (cl j.x) ag30 rfl rfl (fun q hq => hnode.ent q hq) rfl ?_
      refine TL.store sz30 rfl rfl rfl (hb6.ch0 hc25) (by simp [Value.cells]) (by simpa [Value.cells] using cl_one j.x) (.inl rfl) (fun ws1 hbs1 hcs1 hzs1 => ?_)
      replace hbs1 : Has ws1 w.heap.size (cl j.x).toArray 30 (0, 0) := hbs1.setAll rfl
      refine TL.assign rfl rfl ?_
      refine TL.assign rfl rfl ?_
      refine TL.done ?_
      refine Thn.go ?_
      refine TC.ret ?_
      refine Thn.ret ?_
      refine Ends.cell3 (cl j.x) (.inl rfl) rfl ag30 rfl rfl (fun j _ => by rw [hbs1.cell, Nat.zero_add, List.getElem?_toArray]) rfl rfl ?_
      exact ⟨by rw [e1, e2, hnw, hjx]; rfl, q25.then1 hcs1 (Nat.le_refl _)⟩
    ·
      rw [if_neg (by assumption)] at hnw
      refine TC.skip ?_
      refine Thn.go ?_
      refine TC.seq ?_
      refine TC.region ?_
      refine TL.buildRec [] [] (cl e0) rfl rfl (by kernel_rfl) rfl ?_
      refine TL.store sz30 rfl rfl rfl (hb6.ch0 hc25) (by simp [Value.cells]) (by simpa [Value.cells] using cl_one e0) (.inl rfl) (fun ws1 hbs1 hcs1 hzs1 => ?_)
      replace hbs1 : Has ws1 w.heap.size (cl e0).toArray 30 (0, 0) := hbs1.setAll rfl
      refine TL.assign rfl rfl ?_
      refine TL.assign rfl rfl ?_
      refine TL.done ?_
      refine Thn.go ?_
      refine TC.ret ?_
      refine Ends.cell3 (cl e0) (.inl rfl) rfl ag30 rfl rfl (fun j _ => by rw [hbs1.cell, Nat.zero_add, List.getElem?_toArray]) rfl rfl ?_
      exact ⟨by rw [e1, e2, hnw]; rfl, q25.then1 hcs1 (Nat.le_refl _)⟩

