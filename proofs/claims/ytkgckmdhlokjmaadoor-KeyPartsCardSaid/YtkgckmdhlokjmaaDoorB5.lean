/-
  Walks through the given program: each theorem fnN says what the call of function N of the translation hands back, for all arguments that its premises describe, and that nothing that was there has turned.
-/
import Derived.Test.YtkgckmdhlokjmaaDoorB4
import Derived.Test.YtkgckmdhlokjmaaDoorX63
namespace Go.Proofs.YtkgckmdhlokjmaaDoor
open Go.Lane
open Go.Key
open Go.RowKit (Below)
theorem can13 : Callable Tryd.prog 13 := ⟨Tryd.f13, Tryd.func13, by kernel_rfl, rfl⟩
theorem can14 : Callable Tryd.prog 14 := ⟨Tryd.f14, Tryd.func14, by kernel_rfl, rfl⟩
theorem can22 : Callable Tryd.prog 22 := ⟨Tryd.f22, Tryd.func22, by kernel_rfl, rfl⟩
theorem can34 : Callable Tryd.prog 34 := ⟨Tryd.f34, Tryd.func34, by kernel_rfl, rfl⟩
theorem can35 : Callable Tryd.prog 35 := ⟨Tryd.f35, Tryd.func35, by kernel_rfl, rfl⟩
theorem rows_one (l : List Part) : ∀ u ∈ l.flatMap cl, u.oneCell' = true := by intro u hu; obtain ⟨p, _, hp⟩ := List.mem_flatMap.1 hu; exact cl_one p u hp
theorem recOne {x : Part} {w : World} {b : Nat} {fr : Nat × Nat} (h : Has w b (flat [.agg (cl x).toArray]).toArray 29 fr) : Rd w (.slice (some ⟨b, 0, none⟩) 1 1) 3 1 ([x].flatMap cl) := by
  have := Rd.ofFlat (sz := 3) (m := 1) h (by simp [Value.cells, cl_len]) rfl (by decide)
  simpa [flat, Value.cells] using this

theorem fn16 (s : List UInt8) (hs : s.length ≤ 100000) (w : World) (h : Sh w) : Rets Tryd.prog 16 #[str s] w (fun r w' => ∃ o, r = .tuple #[o, .int .i64 (cutE s : Int)] ∧ Own w' w.heap.size 29 3 o (cutL s).length ((cutL s).flatMap cl) ∧ Ch [] w w') := by
  have hmm : maxLen = 9223372036854775807 := rfl
  refine Rets.of (n := 69) (vs := [_]) Tryd.func16 rfl rfl rfl ?_
  refine TC.seq ?_
  refine TC.region ?_
  refine TL.assign rfl rfl ?_
  refine TL.assign rfl rfl ?_
  refine TL.done ?_
  refine Thn.go ?_
  refine TC.seq ?_
  refine TC.seq ?_
  refine TC.region ?_
  refine TL.move rfl rfl ?_
  refine TL.lenStr Tryd.underlying9 rfl rfl ?_
  refine TL.gtr rfl rfl rfl ?_
  refine TL.done ?_
  refine Thn.go ?_
  refine TC.condP rfl (fun h1 => ?_) (fun h1 => ?_)
  ·
    have e1 : cutE s = 60 := if_pos (by omega)
    have e2 : cutL s = [] := if_neg (by omega)
    refine TC.seq ?_
    refine TC.region ?_
    refine TL.assign rfl rfl ?_
    refine TL.assign rfl rfl ?_
    refine TL.done ?_
    refine Thn.go ?_
    refine TC.ret ?_
    refine Thn.ret ?_
    refine Ends.ret [2, 3] rfl rfl ?_
    exact ⟨_, by rw [e1]; rfl, by rw [e2]; exact World.ownsRow_nil _ _ _ _, Ch.refl _ _⟩
  ·
    have h256 : ¬ 256 < s.length := by omega
    have bad : cutO 8 s = none → cutE s = 60 ∧ cutL s = [] := fun h => by
      have e1 : cutE s = 60 := by rw [cutE, if_neg h256, h]; rfl
      exact ⟨e1, if_neg (by omega)⟩
    refine TC.skip ?_
    refine Thn.go ?_
    refine TC.seq ?_
    refine TC.region ?_
    refine TL.assign rfl rfl ?_
    refine TL.done ?_
    refine Thn.go ?_
    refine TC.seq ?_
    refine TC.block ?_
    refine TC.loop3 (fun (rest : List UInt8) (m : List Part) (ov : Value) => [(0, str rest), (4, ov)]) (fun rest m ov w' => cutO 8 s = (cutO (8 - m.length) rest).map (m ++ ·) ∧ m.length ≤ 8 ∧ rest.length ≤ s.length ∧ Own w' w.heap.size 29 3 ov m.length (m.flatMap cl) ∧ Ch [] w w') (fun rest _ _ => rest.length) s [] (.slice none 0 0) (by repeat (first | exact trivial | refine ⟨rfl, ?_⟩)) (⟨by cases cutO 8 s <;> simp, by simp, Nat.le_refl _, World.ownsRow_nil _ _ _ _, Ch.refl _ _⟩) (fun rest m ov w' hI => ?_)
    obtain ⟨hco, hml, hrl, hown, hch⟩ := hI
    refine TC.seq ?_
    refine TC.seq ?_
    refine TC.region ?_
    refine TL.move rfl rfl ?_
    refine TL.neqStr rfl rfl rfl ?_
    refine TL.done ?_
    refine Thn.go ?_
    refine TC.condP rfl (fun h2 => ?_) (fun h2 => ?_)
    ·
      obtain ⟨c, tl, rfl⟩ : ∃ c tl, rest = c :: tl := by cases rest with
        | nil => exact absurd rfl (by assumption)
        | cons c tl => exact ⟨c, tl, rfl⟩
      have hcl : (c :: tl).length = tl.length + 1 := rfl
      have hst : ∀ p r, oneP (c :: tl) = some (p, r) → m.length < 8 → cutO 8 s = (cutO (8 - (m ++ [p]).length) r).map ((m ++ [p]) ++ ·) := fun p r ho h8 => by
        obtain ⟨n, hn⟩ : ∃ n, 8 - m.length = n + 1 := ⟨7 - m.length, by omega⟩
        have e : 8 - (m ++ [p]).length = n := by simp; omega
        rw [hco, hn, cutO, ho, e]
        dsimp only
        rw [Option.map_map]; congr 1; funext q; simp
      have hno : oneP (c :: tl) = none → cutO 8 s = none := fun ho => by
        rw [hco]
        cases h8 : 8 - m.length with
        | zero => rfl
        | succ n => rw [cutO, ho]; rfl
      have hfull : ¬ m.length < 8 → cutO 8 s = none := fun h8 => by rw [hco, show 8 - m.length = 0 by omega]; rfl
      refine TC.skip ?_
      refine Thn.go ?_
      refine TC.block ?_
      refine TC.seq ?_
      refine TC.region ?_
      refine TL.alloc ze29 rfl (fun w5 hb5 hc5 hz5 => ?_)
      refine TL.done ?_
      refine Thn.go ?_
      refine TC.seq ?_
      refine TC.regionQ (fun w6 => Ch [] w5 w6) mixed0 (by kernel_rfl) (Ch.drew [] _) ?_
      refine TQ.via rfl rfl rfl rfl (fun w2 hw2 => TL.move rfl rfl (TL.done ⟨rfl, rfl⟩)) ?_
      refine TQ.via rfl rfl rfl rfl (fun w2 hw2 => TL.indexStr (l := c :: tl) (j := 0) (b := c) Tryd.underlying9 rfl rfl rfl rfl rfl (TL.done ⟨rfl, rfl⟩)) ?_
      refine TQ.via rfl rfl rfl rfl (fun w2 hw2 => TL.move rfl rfl (TL.done ⟨rfl, rfl⟩)) ?_
      refine TQ.via rfl rfl rfl rfl (fun w2 hw2 => TL.strFrom (j := 1) Tryd.underlying9 rfl rfl rfl (by simp) rfl (TL.done ⟨rfl, rfl⟩)) ?_
      refine TQ.via rfl rfl rfl rfl (fun w2 hw2 => TL.assign rfl rfl (TL.done ⟨rfl, rfl⟩)) ?_
      refine TQ.via rfl rfl rfl rfl (fun w2 hw2 => TL.assign rfl rfl (TL.done ⟨rfl, rfl⟩)) ?_
      refine TQ.done (fun w2 hw2 => ?_)
      rw [show (c :: tl).drop 1 = tl from rfl]
      refine Thn.go ?_
      refine TC.seq ?_
      refine TC.block ?_
      refine TC.regionBool (d := 23) (p := (c = 1 ∧ 8 ≤ tl.length)) (fun K3 hK3 => ?_) ?_
      ·
        refine TL.move rfl rfl ?_
        refine TL.eql rfl rfl rfl ?_
        refine TL.em (fun e25 => ?_) (fun e25 => ?_)
        ·
          have hce : c = 1 := kind_eq.1 (by assumption)
          refine TL.move rfl rfl ?_
          refine TL.guardYes (d := 26) rfl rfl rfl ?_
          refine TL.move rfl rfl ?_
          refine TL.guardYes (d := 26) rfl rfl rfl ?_
          refine TL.lenStr Tryd.underlying9 rfl rfl ?_
          refine TL.guardYes (d := 26) rfl rfl rfl ?_
          refine TL.geq rfl rfl rfl ?_
          refine TL.pickT rfl rfl rfl rfl ?_
          refine TL.assign rfl rfl ?_
          refine TL.done ?_
          refine hK3 _ ?_
          refine Le.here rfl (by first | exact decide_eq_true (by omega) | exact decide_eq_false (by omega) | exact decide_eq_decide.2 (by omega) | exact decide_eq_true (by grind) | exact decide_eq_false (by grind) | exact decide_eq_decide.2 (by grind)) ?_
          repeat (first | exact Le.refl _ | refine Le.skip rfl ?_)
        ·
          have hcn : ¬ c = 1 := fun e => absurd (congrArg (fun x : UInt8 => (x.toNat : Int)) e) (by assumption)
          refine TL.move rfl rfl ?_
          refine TL.guardNo (d := 26) rfl rfl rfl rfl rfl ?_
          refine TL.guardNo (d := 26) rfl rfl rfl rfl rfl ?_
          refine TL.guardNo (d := 26) rfl rfl rfl rfl rfl ?_
          refine TL.pickF rfl rfl rfl rfl ?_
          refine TL.assign rfl rfl ?_
          refine TL.done ?_
          refine hK3 _ ?_
          refine Le.here rfl (by first | exact decide_eq_true (by omega) | exact decide_eq_false (by omega) | exact decide_eq_decide.2 (by omega) | exact decide_eq_true (by grind) | exact decide_eq_false (by grind) | exact decide_eq_decide.2 (by grind)) ?_
          repeat (first | exact Le.refl _ | refine Le.skip rfl ?_)
      refine TC.condP rfl (fun h5 => ?_) (fun h5 => ?_)
      ·
        obtain ⟨hc1, h8l⟩ : c = 1 ∧ 8 ≤ tl.length := by assumption
        have hlt : (tl.take 8).length = 8 := by rw [List.length_take]; omega
        have hdl8 : (tl.drop 8).length = tl.length - 8 := List.length_drop
        have hnum := num_lt (tl.take 8)
        rw [hlt] at hnum
        have hone : oneP (c :: tl) = some (numP (backI (num (tl.take 8))), tl.drop 8) := by rw [oneP, if_pos ⟨hc1, h8l⟩]; rfl
        refine TC.seq ?_
        refine TC.region ?_
        refine TL.move rfl rfl ?_
        refine TL.strTo (j := 8) Tryd.underlying9 rfl rfl rfl h8l rfl ?_
        refine TL.strToBytes Tryd.underlying9 Tryd.underlying37 Tryd.underlying5 rfl (by omega) rfl (fun w6 c6 cur6 fr6 hb6 hc6a hc6b hc6s hc6t hfr6 hc6 hz6 => ?_)
        have hc6d : 8 ≤ c6 := by omega
        refine TL.assign rfl rfl ?_
        refine TL.done ?_
        refine Thn.go ?_
        refine TC.seq ?_
        refine TC.region ?_
        refine TL.move rfl rfl ?_
        refine TL.call can22 rfl rfl (fn22 _ c6 cur6 5 fr6 (tl.take 8) (by omega) w6 hb6 (by omega) hc6t (.inr (by rw [hfr6]; show (tl.take 8).length ≤ c6; omega))) (fun v35 w35 hr35 => ?_)
        obtain ⟨⟨cur7, hb7, hs7, ht7⟩, hc35⟩ := hr35
        have hrv : Rd w35 (.slice (some ⟨w2.heap.size, 0, none⟩) (tl.take 8).length c6) 1 (tl.take 8).reverse.length ((tl.take 8).reverse.map u8) := by
          rw [List.length_reverse]
          exact .inr ⟨_, 0, c6, cur7, 5, fr6, rfl, hb7, by omega, hc6b, by omega, by rw [List.drop_zero, Nat.mul_one, ht7]⟩
        refine TL.done ?_
        refine Thn.go ?_
        refine TC.seq ?_
        refine TC.region ?_
        refine TL.move rfl rfl ?_
        refine TL.call can34 rfl rfl (fn34 _ (tl.take 8).reverse w35 hrv) (fun v38 w38 hr38 => ?_)
        have hgn : Bits.getN (tl.take 8).reverse = num (tl.take 8) := by rw [Bits.getN, if_pos (by rw [List.length_reverse, hlt]), le_rev 8 _ hlt]
        rw [hgn] at hr38
        obtain ⟨rfl, hc38⟩ := hr38
        refine TL.move rfl rfl ?_
        refine TL.extract rfl rfl rfl ?_
        refine TL.extract rfl rfl rfl ?_
        refine TL.assign rfl rfl ?_
        refine TL.assign rfl rfl ?_
        refine TL.done ?_
        refine Thn.go ?_
        refine TC.regionH (fun w8 => Ch [w'.heap.size] w38 w8) mixed0 ?_
        have hS : (fun w8 => Ch [w'.heap.size] w38 w8) _ := Ch.drew _ _
        refine TH.take (i := 0) rfl rfl rfl rfl rfl (by kernel_rfl) (by kernel_rfl) (by kernel_rfl) hS (fun w2 hw2 => TL.move rfl rfl (TL.done ⟨rfl, rfl⟩)) ?_
        refine TH.take (i := 1) rfl rfl rfl rfl rfl (by kernel_rfl) (by kernel_rfl) (by kernel_rfl) hS (fun w2 hw2 => TL.xor_u64 (b := 9223372036854775808) rfl rfl rfl (TL.done ⟨rfl, rfl⟩)) ?_
        refine TH.take (i := 2) rfl rfl rfl rfl rfl (by kernel_rfl) (by kernel_rfl) (by kernel_rfl) hS (fun w2 hw2 => TL.conv (r := backI (num (tl.take 8))) Tryd.underlying53 Tryd.underlying2 rfl (back_xor (by omega)) rfl (TL.done ⟨rfl, rfl⟩)) ?_
        refine TH.take (i := 4) rfl rfl rfl rfl rfl (by kernel_rfl) (by kernel_rfl) (by kernel_rfl) hS (fun w2 hw2 => TL.move rfl rfl (TL.done ⟨rfl, rfl⟩)) ?_
        refine TH.take (i := 5) rfl rfl rfl rfl rfl (by kernel_rfl) (by kernel_rfl) (by kernel_rfl) hS (fun w2 hw2 => TL.strFrom (j := 8) Tryd.underlying9 rfl rfl rfl h8l rfl (TL.done ⟨rfl, rfl⟩)) ?_
        refine TH.one (i := 3) (by kernel_rfl) rfl rfl ?_
        refine TL.call can13 rfl rfl (fn13 (backI (num (tl.take 8))) _) (fun v44 w44 hr44 => ?_)
        obtain ⟨rfl, hc44⟩ := hr44
        have hS : (fun w8 => Ch [w'.heap.size] w38 w8) _ := Ch.trans hS hc44 (fun x h _ => h) (by simp)
        refine TL.done ⟨hS, ?_⟩
        refine TH.one (i := 6) (by kernel_rfl) rfl rfl ?_
        have k35 : Ch [] w2 w35 := hc6.then1 hc35 (Nat.le_refl _)
        have k44 : Ch [] w5 w44 := hw2.trans0 (k35.trans0 (hc38.trans0 ((Ch.drew [] _).trans0 hc44)))
        refine TL.store sz29 rfl rfl rfl (hb5.ch0 k44) (by simp [Value.cells]) (by simpa [Value.cells] using cl_one (numP (backI (num (tl.take 8))))) (.inl rfl) (fun ws1 hbs1 hcs1 hzs1 => ?_)
        replace hbs1 : Has ws1 w'.heap.size (cl (numP (backI (num (tl.take 8))))).toArray 29 (0, 0) := hbs1.setAll rfl
        have q1 : Ch [] w' ws1 := (hc5.trans0 k44).then1 hcs1 (Nat.le_refl _)
        have hS : (fun w8 => Ch [w'.heap.size] w38 w8) _ := Ch.trans hS hcs1 (fun x h _ => h) (fun x h _ => h)
        refine TL.done ⟨hS, ?_⟩
        refine TH.take (i := 7) rfl rfl rfl rfl rfl (by kernel_rfl) (by kernel_rfl) (by kernel_rfl) hS (fun w2 hw2 => TL.assign rfl rfl (TL.done ⟨rfl, rfl⟩)) ?_
        refine TH.done (by kernel_rfl) ?_
        refine Blk.go ?_
        refine Thn.go ?_
        refine TC.seq ?_
        refine TC.region ?_
        refine TL.move rfl rfl ?_
        refine TL.loadAgg (cl (numP (backI (num (tl.take 8))))) ag29 rfl rfl (fun j _ => by rw [hbs1.cell, Nat.zero_add, List.getElem?_toArray]) rfl ?_
        refine TL.buildSlice [.tmp 62] sl22 rfl rfl rfl (by decide) (by first | simp [Value.cells]; done | simp [Value.cells, cl_len]; done) rfl (fun w63 hb63 hc63 hz63 => ?_)
        refine TL.append sl22 rfl rfl rfl ((hown.ch0 q1).ch0 hc63) (News.ofRd Tryd.underlying22 (recOne hb63) (rows_one _)) (by omega) (by omega) (by have := hch.size; have := q1.size; have := hc63.size; omega) (fun v64 w64 hv64 hc64 _ => ?_)
        obtain ⟨d64, p64, rfl⟩ := hv64.shape
        have qf : Ch [] w w64 := ((hown.ch0 q1).ch0 hc63).thenCh' (hch.trans0 (q1.trans0 hc63)) hc64 (Nat.le_refl _)
        refine TL.assign rfl rfl ?_
        refine TL.done ?_
        refine Thn.go ?_
        refine TC.seq ?_
        refine TC.region ?_
        refine TL.move rfl rfl ?_
        refine TL.lenSlice Tryd.underlying22 rfl rfl ?_
        refine TL.gtr rfl rfl rfl ?_
        refine TL.done ?_
        refine Thn.go ?_
        refine TC.condP rfl (fun h7 => ?_) (fun h7 => ?_)
        ·
          obtain ⟨x1, x2⟩ := bad (hfull (by omega))
          refine TC.seq ?_
          refine TC.region ?_
          refine TL.assign rfl rfl ?_
          refine TL.assign rfl rfl ?_
          refine TL.done ?_
          refine Thn.go ?_
          refine TC.ret ?_
          refine Blk.ret ?_
          refine Lp.ret ?_
          refine Blk.ret ?_
          refine Thn.ret ?_
          refine Ends.ret [2, 3] rfl rfl ?_
          exact ⟨_, by rw [x1]; rfl, by rw [x2]; exact World.ownsRow_nil _ _ _ _, qf⟩
        ·
          refine TC.skip ?_
          refine Blk.go ?_
          refine Lp.go ((tl.drop 8, m ++ [numP (backI (num (tl.take 8)))], .slice d64 (m.length + 1) p64)) (by repeat (first | exact trivial | refine ⟨rfl, ?_⟩)) ?_ (by first | omega | (dsimp only; omega))
          exact ⟨hst _ _ hone (by omega), by simp; omega, by simp at hrl ⊢; omega, by rw [List.length_append, List.flatMap_append]; exact hv64, qf⟩
      ·
        refine TC.seq ?_
        refine TC.region ?_
        refine TL.move rfl rfl ?_
        refine TL.eql rfl rfl rfl ?_
        refine TL.assign rfl rfl ?_
        refine TL.done ?_
        refine Thn.go ?_
        refine TC.condP rfl (fun h8 => ?_) (fun h8 => ?_)
        ·
          have hc2 : c = 2 := kind_eq.1 (by assumption)
          have hone2 : oneP (c :: tl) = (unesc tl).map (fun p => (⟨2, 0, p.1⟩, p.2)) := by rw [oneP, if_neg (by assumption), if_pos hc2]
          refine TC.seq ?_
          refine TC.region ?_
          refine TL.move rfl rfl ?_
          refine TL.call can35 rfl rfl (fn35 tl (by omega) w2 (h.ch0 (hch.trans0 (hc5.trans0 hw2)))) (fun v52 w52 hr52 => ?_)
          obtain ⟨rfl, hc52⟩ := hr52
          obtain ⟨o, ho⟩ : ∃ o, unesc tl = o := ⟨_, rfl⟩
          rw [ho] at hone2 ⊢
          refine TL.move rfl rfl ?_
          refine TL.extract rfl rfl rfl ?_
          refine TL.extract rfl rfl rfl ?_
          refine TL.extract rfl rfl rfl ?_
          refine TL.assign rfl rfl ?_
          refine TL.assign rfl rfl ?_
          refine TL.assign rfl rfl ?_
          refine TL.done ?_
          refine Thn.go ?_
          refine TC.seq ?_
          refine TC.regionBool (d := 57) (p := (o = none)) (fun K9 hK9 => ?_) ?_
          ·
            refine TL.move rfl rfl ?_
            refine TL.not rfl rfl ?_
            refine TL.done ?_
            refine hK9 _ ?_
            refine Le.here rfl (by cases o <;> simp) ?_
            repeat (first | exact Le.refl _ | refine Le.skip rfl ?_)
          refine TC.condP rfl (fun h10 => ?_) (fun h10 => ?_)
          ·
            have hon : o = none := by assumption
            obtain ⟨x1, x2⟩ := bad (hno (by rw [hone2, hon]; rfl))
            refine TC.seq ?_
            refine TC.region ?_
            refine TL.assign rfl rfl ?_
            refine TL.assign rfl rfl ?_
            refine TL.done ?_
            refine Thn.go ?_
            refine TC.ret ?_
            refine Thn.ret ?_
            refine Blk.ret ?_
            refine Thn.ret ?_
            refine Blk.ret ?_
            refine Lp.ret ?_
            refine Blk.ret ?_
            refine Thn.ret ?_
            refine Ends.ret [2, 3] rfl rfl ?_
            exact ⟨_, by rw [x1]; rfl, by rw [x2]; exact World.ownsRow_nil _ _ _ _, hch.trans0 (hc5.trans0 (hw2.trans0 hc52))⟩
          ·
            obtain ⟨⟨t, u⟩, rfl⟩ : ∃ p, o = some p := by cases o with
              | none => exact absurd rfl (by assumption)
              | some p => exact ⟨p, rfl⟩
            have hone3 : oneP (c :: tl) = some (wordP t, u) := by rw [hone2]; rfl
            have hul : u.length < tl.length := by have := congrArg List.length (esc_unesc _ tl t u (Nat.le_refl _) ho); simp at this; omega
            refine TC.skip ?_
            refine Thn.go ?_
            refine TC.region ?_
            refine TL.move rfl rfl ?_
            refine TL.call can14 rfl rfl (fn14 t _) (fun v59 w59 hr59 => ?_)
            obtain ⟨rfl, hc59⟩ := hr59
            refine TL.move rfl rfl ?_
            refine TL.store sz29 rfl rfl rfl (hb5.ch0 (hw2.trans0 (hc52.trans0 hc59))) (by simp [Value.cells]) (by simpa [Value.cells] using cl_one (wordP t)) (.inl rfl) (fun ws2 hbs2 hcs2 hzs2 => ?_)
            replace hbs2 : Has ws2 w'.heap.size (cl (wordP t)).toArray 29 (0, 0) := hbs2.setAll rfl
            have q2 : Ch [] w' ws2 := (hc5.trans0 (hw2.trans0 (hc52.trans0 hc59))).then1 hcs2 (Nat.le_refl _)
            refine TL.assign rfl rfl ?_
            refine TL.done ?_
            refine Blk.go ?_
            refine Thn.go ?_
            refine TC.seq ?_
            refine TC.region ?_
            refine TL.move rfl rfl ?_
            refine TL.loadAgg (cl (wordP t)) ag29 rfl rfl (fun j _ => by rw [hbs2.cell, Nat.zero_add, List.getElem?_toArray]) rfl ?_
            refine TL.buildSlice [.tmp 62] sl22 rfl rfl rfl (by decide) (by first | simp [Value.cells]; done | simp [Value.cells, cl_len]; done) rfl (fun w63 hb63 hc63 hz63 => ?_)
            refine TL.append sl22 rfl rfl rfl ((hown.ch0 q2).ch0 hc63) (News.ofRd Tryd.underlying22 (recOne hb63) (rows_one _)) (by omega) (by omega) (by have := hch.size; have := q2.size; have := hc63.size; omega) (fun v64 w64 hv64 hc64 _ => ?_)
            obtain ⟨d64, p64, rfl⟩ := hv64.shape
            have qf : Ch [] w w64 := ((hown.ch0 q2).ch0 hc63).thenCh' (hch.trans0 (q2.trans0 hc63)) hc64 (Nat.le_refl _)
            refine TL.assign rfl rfl ?_
            refine TL.done ?_
            refine Thn.go ?_
            refine TC.seq ?_
            refine TC.region ?_
            refine TL.move rfl rfl ?_
            refine TL.lenSlice Tryd.underlying22 rfl rfl ?_
            refine TL.gtr rfl rfl rfl ?_
            refine TL.done ?_
            refine Thn.go ?_
            refine TC.condP rfl (fun h11 => ?_) (fun h11 => ?_)
            ·
              obtain ⟨x1, x2⟩ := bad (hfull (by omega))
              refine TC.seq ?_
              refine TC.region ?_
              refine TL.assign rfl rfl ?_
              refine TL.assign rfl rfl ?_
              refine TL.done ?_
              refine Thn.go ?_
              refine TC.ret ?_
              refine Blk.ret ?_
              refine Lp.ret ?_
              refine Blk.ret ?_
              refine Thn.ret ?_
              refine Ends.ret [2, 3] rfl rfl ?_
              exact ⟨_, by rw [x1]; rfl, by rw [x2]; exact World.ownsRow_nil _ _ _ _, qf⟩
            ·
              refine TC.skip ?_
              refine Blk.go ?_
              refine Lp.go ((u, m ++ [wordP t], .slice d64 (m.length + 1) p64)) (by repeat (first | exact trivial | refine ⟨rfl, ?_⟩)) ?_ (by first | omega | (dsimp only; omega))
              exact ⟨hst _ _ hone3 (by omega), by simp; omega, by simp at hrl ⊢; omega, by rw [List.length_append, List.flatMap_append]; exact hv64, qf⟩
        ·
          have hone4 : oneP (c :: tl) = none := by rw [oneP, if_neg (by assumption), if_neg (fun e => absurd (congrArg (fun x : UInt8 => (x.toNat : Int)) e) (by assumption))]
          obtain ⟨x1, x2⟩ := bad (hno hone4)
          refine TC.seq ?_
          refine TC.region ?_
          refine TL.assign rfl rfl ?_
          refine TL.assign rfl rfl ?_
          refine TL.done ?_
          refine Thn.go ?_
          refine TC.ret ?_
          refine Blk.ret ?_
          refine Thn.ret ?_
          refine Blk.ret ?_
          refine Lp.ret ?_
          refine Blk.ret ?_
          refine Thn.ret ?_
          refine Ends.ret [2, 3] rfl rfl ?_
          exact ⟨_, by rw [x1]; rfl, by rw [x2]; exact World.ownsRow_nil _ _ _ _, hch.trans0 (hc5.trans0 hw2)⟩
    ·
      obtain rfl : rest = [] := Decidable.not_not.1 (by assumption)
      have hsome : cutO 8 s = some m := by rw [hco]; cases 8 - m.length <;> simp [cutO]
      have e1 : cutE s = 0 := by rw [cutE, if_neg h256, hsome]; rfl
      have e2 : cutL s = m := by rw [cutL, if_pos e1, hsome]; rfl
      refine TC.exit ?_
      refine Thn.exit ?_
      refine Lp.exit ?_
      refine Blk.hit ?_
      refine Thn.go ?_
      refine TC.seq ?_
      refine TC.region ?_
      refine TL.move rfl rfl ?_
      refine TL.assign rfl rfl ?_
      refine TL.assign rfl rfl ?_
      refine TL.done ?_
      refine Thn.go ?_
      refine TC.ret ?_
      refine Ends.ret [2, 3] rfl rfl ?_
      exact ⟨_, by rw [e1]; rfl, by rw [e2]; exact hown, hch⟩

