/-
  Walks through the given program: each theorem fnN says what the call of function N of the translation hands back, for all arguments that its premises describe, and that nothing that was there has turned.
-/
import Derived.Test.YteogahcefkepaaaF3
namespace Go.Proofs.Yteogahcefkepaaa
open Go.Lane
theorem can18 : Callable Try.prog 18 := ⟨Try.f18, Try.func18, by kernel_rfl, rfl⟩
theorem can30 : Callable Try.prog 30 := ⟨Try.f30, Try.func30, by kernel_rfl, rfl⟩
theorem can32 : Callable Try.prog 32 := ⟨Try.f32, Try.func32, by kernel_rfl, rfl⟩
theorem can33 : Callable Try.prog 33 := ⟨Try.f33, Try.func33, by kernel_rfl, rfl⟩
theorem rd_cap {w : World} {ad : Option Addr} {m n c sz : Nat} {cs : List Value} (h : Rd w (.slice ad m c) sz n cs) : m ≤ c := by
  rcases h with ⟨⟨ad', e⟩, _⟩ | ⟨b, off, c', cur, t, fr, e, _, h1, _⟩
  · cases e; exact Nat.le_refl _
  · cases e; exact h1

theorem fn16 (av : Value) (l : List En.Entry) (x : En.Entry) (w : World) (ha : Rd w av 4 l.length (l.flatMap cl)) : Rets Try.prog 16 #[av, .agg (cl x).toArray] w (fun r w' => ∃ o, r = .tuple #[o, .int .i64 (En.putE l x : Int)] ∧ Own w' w.heap.size 30 4 o (En.putL l x).length ((En.putL l x).flatMap cl) ∧ Ch [] w w') := by
  obtain ⟨ad, c, rfl, _⟩ := ha.shape
  have hmm : maxLen = 9223372036854775807 := rfl
  refine Rets.of (n := 43) (vs := [_, _]) Try.func16 rfl rfl rfl ?_
  refine TC.seq ?_
  refine TC.region ?_
  refine TL.box rfl rfl (fun w3 hb3 hc3 hz3 => ?_)
  have hbx : ∀ w2, Ch [] w3 w2 → ∀ q, q < 4 → w2.cell? ⟨w.heap.size, 0 + q, none⟩ = (cl x)[q]? := fun w2 h2 q _ => by rw [(hb3.ch0 h2).cell, Nat.zero_add]; simp [Value.cells]
  refine TL.assign rfl rfl ?_
  refine TL.assign rfl rfl ?_
  refine TL.done ?_
  refine Thn.go ?_
  refine TC.seq ?_
  refine TC.seq ?_
  refine TC.region ?_
  refine TL.move rfl rfl ?_
  refine TL.call can18 rfl rfl (fn18 _ l w3 (ha.ch0 hc3)) (fun v11 w11 hr11 => ?_)
  obtain ⟨rfl, hc11⟩ := hr11
  have q11 := hc3.trans0 hc11
  refine TL.assign rfl rfl ?_
  refine TL.done ?_
  refine Thn.go ?_
  refine TC.seq ?_
  refine TC.region ?_
  refine TL.move rfl rfl ?_
  refine TL.neq rfl rfl rfl ?_
  refine TL.done ?_
  refine Thn.go ?_
  refine TC.condP rfl (fun h1 => ?_) (fun h1 => ?_)
  ·
    obtain ⟨e1, e2⟩ := En.put_bad (l := l) (x := x) (by omega)
    refine TC.seq ?_
    refine TC.region ?_
    refine TL.move rfl rfl ?_
    refine TL.assign rfl rfl ?_
    refine TL.assign rfl rfl ?_
    refine TL.done ?_
    refine Thn.go ?_
    refine TC.ret ?_
    refine Thn.ret ?_
    refine Ends.ret [4, 5] rfl rfl ?_
    exact ⟨_, by rw [e1]; rfl, by rw [e2]; exact World.ownsRow_nil _ _ _ _, q11⟩
  ·
    have h0 : En.checkE l = 0 := by omega
    have hs := En.check_rises h0
    have hl := (En.check_zero h0).1
    refine TC.skip ?_
    refine Thn.go ?_
    refine TC.seq ?_
    refine TC.seq ?_
    refine TC.region ?_
    refine TL.loadAgg (cl x) ag30 rfl rfl (fun q hq => hbx _ hc11 q hq) rfl ?_
    refine TL.buildSlice [.tmp 15] sl22 rfl rfl rfl (by decide) (by first | simp [Value.cells]; done | simp [Value.cells, cl_len]; done) rfl (fun w16 hb16 hc16 hz16 => ?_)
    refine TL.call can23 rfl rfl (fn23 _ [x] w16 (recOne hb16)) (fun v17 w17 hr17 => ?_)
    rw [En.check_one] at hr17
    obtain ⟨rfl, hc17⟩ := hr17
    have k17 : Ch [] w3 w17 := hc11.trans0 (hc16.trans0 hc17)
    refine TL.assign rfl rfl ?_
    refine TL.done ?_
    refine Thn.go ?_
    refine TC.seq ?_
    refine TC.region ?_
    refine TL.move rfl rfl ?_
    refine TL.neq rfl rfl rfl ?_
    refine TL.done ?_
    refine Thn.go ?_
    refine TC.condP rfl (fun h2 => ?_) (fun h2 => ?_)
    ·
      obtain ⟨e1, e2⟩ := En.put_one (x := x) h0 (by omega)
      refine TC.seq ?_
      refine TC.region ?_
      refine TL.move rfl rfl ?_
      refine TL.assign rfl rfl ?_
      refine TL.assign rfl rfl ?_
      refine TL.done ?_
      refine Thn.go ?_
      refine TC.ret ?_
      refine Thn.ret ?_
      refine Ends.ret [4, 5] rfl rfl ?_
      exact ⟨_, by rw [e1]; rfl, by rw [e2]; exact World.ownsRow_nil _ _ _ _, hc3.trans0 k17⟩
    ·
      have h1 : En.one x = 0 := by omega
      refine TC.skip ?_
      refine Thn.go ?_
      refine TC.seq ?_
      refine TC.region ?_
      refine TL.move rfl rfl ?_
      refine TL.loadAgg (cl x) ag30 rfl rfl (fun q hq => hbx _ k17 q hq) rfl ?_
      refine TL.call can32 rfl rfl (fn32 _ l x hs (by omega) w17 (ha.ch0 (hc3.trans0 k17))) (fun v24 w24 hr24 => ?_)
      obtain ⟨rfl, hc24⟩ := hr24
      have k24 : Ch [] w3 w24 := k17.trans0 hc24
      have q24 : Ch [] w w24 := hc3.trans0 k24
      have hat := En.ahead_at (l := l) (x := x)
      have hal := En.ahead_le l x
      refine TL.move rfl rfl ?_
      refine TL.extract rfl rfl rfl ?_
      refine TL.extract rfl rfl rfl ?_
      refine TL.assign rfl rfl ?_
      refine TL.assign rfl rfl ?_
      refine TL.done ?_
      refine Thn.go ?_
      refine TC.seq ?_
      refine TC.block ?_
      refine TC.seq ?_
      refine TC.region ?_
      refine TL.move rfl rfl ?_
      refine TL.assign rfl rfl ?_
      refine TL.done ?_
      refine Thn.go ?_
      refine TC.condP rfl (fun h3 => ?_) (fun h3 => ?_)
      ·
        have htie : En.ahead l x < l.length ∧ En.cmpE (En.rec l (En.ahead l x)) x = 0 := by assumption
        obtain ⟨e1, e2⟩ := En.put_tie h0 h1 ⟨htie.1, (En.cmpE_zero.1 htie.2).2⟩
        refine TC.seq ?_
        refine TC.region ?_
        refine TL.assign rfl rfl ?_
        refine TL.assign rfl rfl ?_
        refine TL.done ?_
        refine Thn.go ?_
        refine TC.ret ?_
        refine Blk.ret ?_
        refine Thn.ret ?_
        refine Ends.ret [4, 5] rfl rfl ?_
        exact ⟨_, by rw [e1]; rfl, by rw [e2]; exact World.ownsRow_nil _ _ _ _, q24⟩
      ·
        have hno : ¬ (En.ahead l x < l.length ∧ En.cmpE (En.rec l (En.ahead l x)) x = 0) := by assumption
        have h2 : ¬ (En.ahead l x < l.length ∧ ¬ En.less x (En.rec l (En.ahead l x))) := fun ⟨h3, h4⟩ => hno ⟨h3, En.cmpE_zero.2 ⟨hat.2.resolve_left (by omega), h4⟩⟩
        refine TC.seq ?_
        refine TC.region ?_
        refine TL.move rfl rfl ?_
        refine TL.lenSlice Try.underlying22 rfl rfl ?_
        refine TL.geq rfl rfl rfl ?_
        refine TL.assign rfl rfl ?_
        refine TL.done ?_
        refine Thn.go ?_
        refine TC.condP rfl (fun h4 => ?_) (fun h4 => ?_)
        ·
          obtain ⟨e1, e2⟩ := En.put_many h0 h1 h2 (by omega)
          refine TC.seq ?_
          refine TC.region ?_
          refine TL.assign rfl rfl ?_
          refine TL.assign rfl rfl ?_
          refine TL.done ?_
          refine Thn.go ?_
          refine TC.ret ?_
          refine Blk.ret ?_
          refine Thn.ret ?_
          refine Ends.ret [4, 5] rfl rfl ?_
          exact ⟨_, by rw [e1]; rfl, by rw [e2]; exact World.ownsRow_nil _ _ _ _, q24⟩
        ·
          obtain ⟨e1, e2⟩ := En.put_ok h0 h1 h2 (by omega)
          obtain ⟨at_, hat_⟩ : ∃ at_, En.ahead l x = at_ := ⟨_, rfl⟩
          rw [hat_] at hal e2 ⊢
          have hlc := rd_cap ha
          refine TC.skip ?_
          refine Blk.go ?_
          refine Thn.go ?_
          refine TC.seq ?_
          refine TC.regionH (fun w4 => Ch [] w24 w4) mixed0 ?_
          have hS : (fun w4 => Ch [] w24 w4) _ := Ch.drew [] _
          refine TH.take (i := 0) rfl rfl rfl rfl rfl (by kernel_rfl) (by kernel_rfl) (by kernel_rfl) hS (fun w2 hw2 => TL.move rfl rfl (TL.done ⟨rfl, rfl⟩)) ?_
          refine TH.take (i := 1) rfl rfl rfl rfl rfl (by kernel_rfl) (by kernel_rfl) (by kernel_rfl) hS (fun w2 hw2 => TL.move rfl rfl (TL.done ⟨rfl, rfl⟩)) ?_
          refine TH.take (i := 2) rfl rfl rfl rfl rfl (by kernel_rfl) (by kernel_rfl) (by kernel_rfl) hS (fun w2 hw2 => TL.sliceTo (at_) sl22 rfl rfl (by first | rfl | omega) (by omega) rfl (TL.done ⟨rfl, rfl⟩)) ?_
          refine TH.take (i := 3) rfl rfl rfl rfl rfl (by kernel_rfl) (by kernel_rfl) (by kernel_rfl) hS (fun w2 hw2 => TL.loadAgg (cl x) ag30 rfl rfl (fun q hq => hbx _ (k24.trans0 hw2) q hq) rfl (TL.done ⟨rfl, rfl⟩)) ?_
          refine TH.take (i := 5) rfl rfl rfl rfl rfl (by kernel_rfl) (by kernel_rfl) (by kernel_rfl) hS (fun w2 hw2 => TL.move rfl rfl (TL.done ⟨rfl, rfl⟩)) ?_
          refine TH.take (i := 6) rfl rfl rfl rfl rfl (by kernel_rfl) (by kernel_rfl) (by kernel_rfl) hS (fun w2 hw2 => TL.move rfl rfl (TL.done ⟨rfl, rfl⟩)) ?_
          refine TH.take (i := 7) rfl rfl rfl rfl rfl (by kernel_rfl) (by kernel_rfl) (by kernel_rfl) hS (fun w2 hw2 => TL.sliceFrom (at_) sl22 rfl rfl (by first | rfl | omega) (by omega) rfl (TL.done ⟨rfl, rfl⟩)) ?_
          refine TH.one (i := 4) (by kernel_rfl) rfl rfl ?_
          refine TL.buildSlice [.tmp 36] sl22 rfl rfl rfl (by decide) (by first | simp [Value.cells]; done | simp [Value.cells, cl_len]; done) rfl (fun w37 hb37 hc37 hz37 => ?_)
          have hS : (fun w4 => Ch [] w24 w4) _ := Ch.trans0 hS hc37
          refine TL.done ⟨hS, ?_⟩
          refine TH.one (i := 8) (by kernel_rfl) rfl rfl ?_
          refine TL.buildSlice [.tmp 35, .tmp 37, .tmp 40] sl70 rfl rfl rfl (by decide) (by first | simp [Value.cells]; done | simp [Value.cells, cl_len]; done) rfl (fun w41 hb41 hc41 hz41 => ?_)
          have r41 : Rd w41 (.slice (some ⟨w37.heap.size, 0, none⟩) 3 3) 1 3 (vals [(.slice ad at_ c, l.take at_), (.slice (some ⟨w24.drew.heap.size, 0, none⟩) 1 1, [x]), (.slice (adv ad c at_ 4) (l.length - at_) (c - at_), l.drop at_)]) := Rd.ofFlat (vs := vals [(.slice ad at_ c, l.take at_), (.slice (some ⟨w24.drew.heap.size, 0, none⟩) 1 1, [x]), (.slice (adv ad c at_ 4) (l.length - at_) (c - at_), l.drop at_)]) hb41 (by simp [vals, Value.cells]) rfl (by decide)
          have hS : (fun w4 => Ch [] w24 w4) _ := Ch.trans0 hS hc41
          refine TL.done ⟨hS, ?_⟩
          refine TH.one (i := 9) (by kernel_rfl) rfl rfl ?_
          refine TL.call can33 rfl rfl (fn33 _ [(.slice ad at_ c, l.take at_), (.slice (some ⟨w24.drew.heap.size, 0, none⟩) 1 1, [x]), (.slice (adv ad c at_ 4) (l.length - at_) (c - at_), l.drop at_)] (by simp) (by simp [ents]; omega) (by simp [ents]; omega) w41 r41 (fun p hp => by simp only [List.mem_cons, List.not_mem_nil, or_false] at hp; rcases hp with rfl | rfl | rfl; exact prefixRd ((ha.ch0 q24).ch0 hS) hal; exact (recOne hb37).ch0 hc41; exact suffixRd ((ha.ch0 q24).ch0 hS) hal)) (fun v42 w42 hr42 => ?_)
          obtain ⟨hv42, hc42⟩ := hr42
          have hS : (fun w4 => Ch [] w24 w4) _ := Ch.trans0 hS hc42
          refine TL.done ⟨hS, ?_⟩
          refine TH.take (i := 10) rfl rfl rfl rfl rfl (by kernel_rfl) (by kernel_rfl) (by kernel_rfl) hS (fun w2 hw2 => TL.assign rfl rfl (TL.done ⟨rfl, rfl⟩)) ?_
          refine TH.take (i := 11) rfl rfl rfl rfl rfl (by kernel_rfl) (by kernel_rfl) (by kernel_rfl) hS (fun w2 hw2 => TL.assign rfl rfl (TL.done ⟨rfl, rfl⟩)) ?_
          refine TH.done (by kernel_rfl) ?_
          refine Thn.go ?_
          refine TC.ret ?_
          refine Ends.ret [4, 5] rfl rfl ?_
          exact ⟨_, by rw [e1]; rfl, by rw [e2]; exact (show Own _ _ 30 4 _ _ _ by simpa [ents] using hv42).base (by have := q24.size; have := hc37.size; have := hc41.size; have : w24.drew.heap.size = w24.heap.size := rfl; omega), q24.trans0 hS⟩

theorem fn17 (av : Value) (l : List En.Entry) (k : List UInt8) (q : Int) (w : World) (ha : Rd w av 4 l.length (l.flatMap cl)) : Rets Try.prog 17 #[av, str k, .int .i64 q] w (fun r w' => r = .tuple #[.agg (cl ((En.findX l k q).getD e0)).toArray, .bool (En.findX l k q).isSome, .int .i64 (En.findE l k q : Int)] ∧ Ch [] w w') := by
  obtain ⟨ad, c, rfl, _⟩ := ha.shape
  have hmm : maxLen = 9223372036854775807 := rfl
  refine Rets.of (n := 52) (vs := [_, _, _]) Try.func17 rfl rfl rfl ?_
  refine TC.seq ?_
  refine TC.region ?_
  refine TL.alloc ze30 rfl (fun w6 hb6 hc6 hz6 => ?_)
  refine TL.assign rfl rfl ?_
  refine TL.assign rfl rfl ?_
  refine TL.done ?_
  refine Thn.go ?_
  refine TC.seq ?_
  refine TC.seq ?_
  refine TC.region ?_
  refine TL.move rfl rfl ?_
  refine TL.call can18 rfl rfl (fn18 _ l w6 (ha.ch0 hc6)) (fun v14 w14 hr14 => ?_)
  obtain ⟨rfl, hc14⟩ := hr14
  have q14 := hc6.trans0 hc14
  refine TL.assign rfl rfl ?_
  refine TL.done ?_
  refine Thn.go ?_
  refine TC.seq ?_
  refine TC.region ?_
  refine TL.move rfl rfl ?_
  refine TL.neq rfl rfl rfl ?_
  refine TL.done ?_
  refine Thn.go ?_
  refine TC.condP rfl (fun h1 => ?_) (fun h1 => ?_)
  ·
    obtain ⟨e1, e2⟩ := En.find_bad (l := l) (k := k) (n := q) (by omega)
    refine TC.seq ?_
    refine TC.region ?_
    refine TL.buildRec [] [] (cl e0) rfl rfl (by kernel_rfl) rfl ?_
    refine TL.move rfl rfl ?_
    refine TL.store sz30 rfl rfl rfl (hb6.ch0 hc14) (by simp [Value.cells]) (by simpa [Value.cells] using cl_one e0) (.inl rfl) (fun ws1 hbs1 hcs1 hzs1 => ?_)
    replace hbs1 : Has ws1 w.heap.size (cl e0).toArray 30 (0, 0) := hbs1.setAll rfl
    refine TL.assign rfl rfl ?_
    refine TL.assign rfl rfl ?_
    refine TL.done ?_
    refine Thn.go ?_
    refine TC.ret ?_
    refine Thn.ret ?_
    refine Ends.cell3 (cl e0) (.inl rfl) rfl ag30 rfl rfl (fun j _ => by rw [hbs1.cell, Nat.zero_add, List.getElem?_toArray]) rfl rfl ?_
    exact ⟨by rw [e1, e2]; rfl, q14.then1 hcs1 (Nat.le_refl _)⟩
  ·
    have h0 : En.checkE l = 0 := by omega
    have hs := En.check_rises h0
    have hl := (En.check_zero h0).1
    refine TC.skip ?_
    refine Thn.go ?_
    refine TC.seq ?_
    refine TC.seq ?_
    refine TC.region ?_
    refine TL.move rfl rfl ?_
    refine TL.move rfl rfl ?_
    refine TL.call can30 rfl rfl (fn30 k q w14) (fun v21 w21 hr21 => ?_)
    obtain ⟨rfl, rfl⟩ := hr21
    refine TL.assign rfl rfl ?_
    refine TL.done ?_
    refine Thn.go ?_
    refine TC.seq ?_
    refine TC.region ?_
    refine TL.move rfl rfl ?_
    refine TL.neq rfl rfl rfl ?_
    refine TL.done ?_
    refine Thn.go ?_
    refine TC.condP rfl (fun h2 => ?_) (fun h2 => ?_)
    ·
      obtain ⟨e1, e2⟩ := En.find_ask h0 (k := k) (n := q) (by omega)
      refine TC.seq ?_
      refine TC.region ?_
      refine TL.buildRec [] [] (cl e0) rfl rfl (by kernel_rfl) rfl ?_
      refine TL.move rfl rfl ?_
      refine TL.store sz30 rfl rfl rfl (hb6.ch0 hc14) (by simp [Value.cells]) (by simpa [Value.cells] using cl_one e0) (.inl rfl) (fun ws1 hbs1 hcs1 hzs1 => ?_)
      replace hbs1 : Has ws1 w.heap.size (cl e0).toArray 30 (0, 0) := hbs1.setAll rfl
      refine TL.assign rfl rfl ?_
      refine TL.assign rfl rfl ?_
      refine TL.done ?_
      refine Thn.go ?_
      refine TC.ret ?_
      refine Thn.ret ?_
      refine Ends.cell3 (cl e0) (.inl rfl) rfl ag30 rfl rfl (fun j _ => by rw [hbs1.cell, Nat.zero_add, List.getElem?_toArray]) rfl rfl ?_
      exact ⟨by rw [e1, e2]; rfl, q14.then1 hcs1 (Nat.le_refl _)⟩
    ·
      obtain ⟨e1, e2⟩ := En.find_ok h0 (k := k) (n := q) (by omega)
      have hnw := En.newest_at hs k q
      refine TC.skip ?_
      refine Thn.go ?_
      refine TC.seq ?_
      refine TC.region ?_
      refine TL.move rfl rfl ?_
      refine TL.move rfl rfl ?_
      refine TL.move rfl rfl ?_
      refine TL.buildRec [0, 2] [.tmp 28, .tmp 29] (cl (En.ask k q)) rfl rfl (by kernel_rfl) rfl ?_
      refine TL.call can32 rfl rfl (fn32 _ l (En.ask k q) hs (by omega) _ (ha.ch0 q14)) (fun v31 w31 hr31 => ?_)
      obtain ⟨rfl, hc31⟩ := hr31
      have q31 := q14.trans0 hc31
      obtain ⟨m, hm⟩ : ∃ m, En.ahead l (En.ask k q) = m := ⟨_, rfl⟩
      have hal := En.ahead_le l (En.ask k q)
      rw [hm] at hnw hal ⊢
      refine TL.move rfl rfl ?_
      refine TL.extract rfl rfl rfl ?_
      refine TL.extract rfl rfl rfl ?_
      refine TL.assign rfl rfl ?_
      refine TL.assign rfl rfl ?_
      refine TL.done ?_
      refine Thn.go ?_
      refine TC.seq ?_
      refine TC.regionBool (d := 46) (p := (m < l.length ∧ (En.rec l m).key = k)) (fun K3 hK3 => ?_) ?_
      ·
        refine TL.move rfl rfl ?_
        refine TL.move rfl rfl ?_
        refine TL.lenSlice Try.underlying22 rfl rfl ?_
        refine TL.lss rfl rfl rfl ?_
        refine TL.em (fun e37 => ?_) (fun e37 => ?_)
        ·
          have hml : m < l.length := by omega
          obtain ⟨b1, o1, rfl, hall⟩ := recIn ha hml
          refine TL.move rfl rfl ?_
          refine TL.guardYes (d := 38) rfl rfl rfl ?_
          refine TL.move rfl rfl ?_
          refine TL.guardYes (d := 38) rfl rfl rfl ?_
          refine TL.move rfl rfl ?_
          refine TL.guardYes (d := 38) rfl rfl rfl ?_
          refine TL.indexAddr (m) sl22 rfl rfl (by first | rfl | omega) (by omega) rfl ?_
          refine TL.guardYes (d := 38) rfl rfl rfl ?_
          refine TL.fieldAddr fd30k0 rfl rfl ?_
          refine TL.guardYes (d := 38) rfl rfl rfl ?_
          refine TL.load pl9 rfl ((show _ = some (str (En.rec l m).key) from hall _ q31 0 (by decide))) rfl ?_
          refine TL.guardYes (d := 38) rfl rfl rfl ?_
          refine TL.move rfl rfl ?_
          refine TL.guardYes (d := 38) rfl rfl rfl ?_
          refine TL.eqlStr rfl rfl rfl ?_
          refine TL.pickT rfl rfl rfl rfl ?_
          refine TL.done ?_
          refine hK3 _ ?_
          refine Le.here rfl (by first | exact decide_eq_true (by omega) | exact decide_eq_false (by omega) | exact decide_eq_decide.2 (by omega) | exact decide_eq_true (by grind) | exact decide_eq_false (by grind) | exact decide_eq_decide.2 (by grind)) ?_
          repeat (first | exact Le.refl _ | refine Le.skip rfl ?_)
        ·
          refine TL.move rfl rfl ?_
          refine TL.guardNo (d := 38) rfl rfl rfl rfl rfl ?_
          refine TL.guardNo (d := 38) rfl rfl rfl rfl rfl ?_
          refine TL.guardNo (d := 38) rfl rfl rfl rfl rfl ?_
          refine TL.guardNo (d := 38) rfl rfl rfl rfl rfl ?_
          refine TL.guardNo (d := 38) rfl rfl rfl rfl rfl ?_
          refine TL.guardNo (d := 38) rfl rfl rfl rfl rfl ?_
          refine TL.guardNo (d := 38) rfl rfl rfl rfl rfl ?_
          refine TL.pickF rfl rfl rfl rfl ?_
          refine TL.done ?_
          refine hK3 _ ?_
          refine Le.here rfl (by first | exact decide_eq_true (by omega) | exact decide_eq_false (by omega) | exact decide_eq_decide.2 (by omega) | exact decide_eq_true (by grind) | exact decide_eq_false (by grind) | exact decide_eq_decide.2 (by grind)) ?_
          repeat (first | exact Le.refl _ | refine Le.skip rfl ?_)
      refine TC.condP rfl (fun h5 => ?_) (fun h5 => ?_)
      ·
        have hyes : m < l.length ∧ (En.rec l m).key = k := by assumption
        obtain ⟨b1, o1, rfl, hall⟩ := recIn ha hyes.1
        rw [if_pos hyes] at hnw
        refine TC.seq ?_
        refine TC.region ?_
        refine TL.move rfl rfl ?_
        refine TL.move rfl rfl ?_
        refine TL.indexAddr (m) sl22 rfl rfl (by first | rfl | omega) (by omega) rfl ?_
        refine TL.loadAgg (cl (En.rec l m)) ag30 rfl rfl (fun j hj => hall _ q31 j hj) rfl ?_
        refine TL.store sz30 rfl rfl rfl ((hb6.ch0 hc14).ch0 hc31) (by simp [Value.cells]) (by simpa [Value.cells] using cl_one (En.rec l m)) (.inl rfl) (fun ws1 hbs1 hcs1 hzs1 => ?_)
        replace hbs1 : Has ws1 w.heap.size (cl (En.rec l m)).toArray 30 (0, 0) := hbs1.setAll rfl
        refine TL.assign rfl rfl ?_
        refine TL.assign rfl rfl ?_
        refine TL.done ?_
        refine Thn.go ?_
        refine TC.ret ?_
        refine Thn.ret ?_
        refine Ends.cell3 (cl (En.rec l m)) (.inl rfl) rfl ag30 rfl rfl (fun j _ => by rw [hbs1.cell, Nat.zero_add, List.getElem?_toArray]) rfl rfl ?_
        exact ⟨by rw [e1, e2, hnw]; rfl, q31.then1 hcs1 (Nat.le_refl _)⟩
      ·
        rw [if_neg (by assumption)] at hnw
        refine TC.skip ?_
        refine Thn.go ?_
        refine TC.seq ?_
        refine TC.region ?_
        refine TL.buildRec [] [] (cl e0) rfl rfl (by kernel_rfl) rfl ?_
        refine TL.store sz30 rfl rfl rfl ((hb6.ch0 hc14).ch0 hc31) (by simp [Value.cells]) (by simpa [Value.cells] using cl_one e0) (.inl rfl) (fun ws1 hbs1 hcs1 hzs1 => ?_)
        replace hbs1 : Has ws1 w.heap.size (cl e0).toArray 30 (0, 0) := hbs1.setAll rfl
        refine TL.assign rfl rfl ?_
        refine TL.assign rfl rfl ?_
        refine TL.done ?_
        refine Thn.go ?_
        refine TC.ret ?_
        refine Ends.cell3 (cl e0) (.inl rfl) rfl ag30 rfl rfl (fun j _ => by rw [hbs1.cell, Nat.zero_add, List.getElem?_toArray]) rfl rfl ?_
        exact ⟨by rw [e1, e2, hnw]; rfl, q31.then1 hcs1 (Nat.le_refl _)⟩

