/-
  Walks through the given program: each theorem fnN says what the call of function N of the translation hands back, for all arguments that its premises describe, and that nothing that was there has turned.
-/
import Derived.Test.YtilnoklpikblgaaE5
namespace Go.Proofs.Ytilnoklpikblgaa
open Go.Lane
theorem can27 : Callable Try.prog 27 := ⟨Try.f27, Try.func27, by kernel_rfl, rfl⟩
theorem can28 : Callable Try.prog 28 := ⟨Try.f28, Try.func28, by kernel_rfl, rfl⟩
theorem can30 : Callable Try.prog 30 := ⟨Try.f30, Try.func30, by kernel_rfl, rfl⟩
theorem sl22 : SliceT Try.prog 22 25 1 24 (.slice none 0 0) := SliceT.mk' Try.underlying22 (by kernel_rfl) rfl rfl
theorem ze55 : ZeroT Try.prog 55 (.slice none 0 0) := by unfold ZeroT; kernel_rfl
theorem one_slice (a : Option Addr) (n c : Nat) : ∀ u ∈ [Value.slice a n c], u.oneCell' = true := by simp [Value.oneCell']
/-- What a queue's value is made of, one more. -/
theorem vals_app (L : List Row) (x : Row) : vals (L ++ [x]) = vals L ++ [x.1] := by simp [vals]

theorem fn12 (av : Value) (Ls : List Row) (w : World) (ha : Rd w av 1 Ls.length (vals Ls)) (hr : ∀ p ∈ Ls, Rd w p.1 4 p.2.length (p.2.flatMap cl)) (hsum : (Ls.map (·.2)).flatten.length ≤ 2000000) : Rets Try.prog 12 #[av] w (fun r w' => ∃ o, r = .tuple #[o, .int .i64 (En.allE (Ls.map (·.2)) : Int)] ∧ Own w' w.heap.size 32 4 o (En.allL (Ls.map (·.2))).length ((En.allL (Ls.map (·.2))).flatMap cl) ∧ Ch [] w w') := by
  obtain ⟨ad, c, rfl, _⟩ := ha.shape
  have hmm : maxLen = 9223372036854775807 := rfl
  obtain ⟨D, hD⟩ : ∃ D, Ls.map (·.2) = D := ⟨_, rfl⟩
  have hDl : D.length = Ls.length := by rw [← hD]; simp
  have hDg : ∀ (i : Nat) (h : i < Ls.length), D[i]'(by omega) = Ls[i].2 := fun i h => by subst hD; simp
  rw [hD] at hsum ⊢
  refine Rets.of (n := 65) (vs := [_]) Try.func12 rfl rfl rfl ?_
  refine TC.seq ?_
  refine TC.region ?_
  refine TL.assign rfl rfl ?_
  refine TL.assign rfl rfl ?_
  refine TL.done ?_
  refine Thn.go ?_
  refine TC.seq ?_
  refine TC.seq ?_
  refine TC.region ?_
  refine TL.move rfl rfl ?_
  refine TL.lenSlice Try.underlying22 rfl rfl ?_
  refine TL.gtr rfl rfl rfl ?_
  refine TL.done ?_
  refine Thn.go ?_
  refine TC.condP rfl (fun h1 => ?_) (fun h1 => ?_)
  ·
    obtain ⟨e1, e2⟩ := En.all_rows (Ls := D) (by omega)
    refine TC.seq ?_
    refine TC.region ?_
    refine TL.assign rfl rfl ?_
    refine TL.assign rfl rfl ?_
    refine TL.done ?_
    refine Thn.go ?_
    refine TC.ret ?_
    refine Thn.ret ?_
    refine Ends.ret [2, 3] rfl rfl ?_
    exact ⟨_, by rw [e1]; rfl, by rw [e2]; exact World.ownsRow_nil _ _ _ _, Ch.refl _ _⟩
  ·
    have h64 : ¬ 64 < D.length := by omega
    refine TC.skip ?_
    refine Thn.go ?_
    refine TC.seq ?_
    refine TC.region ?_
    refine TL.alloc ze55 rfl (fun w4 hb4 hc4 hz4 => ?_)
    replace hb4 : Has w4 w.heap.size #[.slice none 0 0] 55 (0, 0) := hb4
    refine TL.done ?_
    refine Thn.go ?_
    refine TC.seq ?_
    refine TC.region ?_
    refine TL.assign rfl rfl ?_
    refine TL.done ?_
    refine Thn.go ?_
    refine TC.seq ?_
    refine TC.seq ?_
    refine TC.region ?_
    refine TL.move rfl rfl ?_
    refine TL.lenSlice Try.underlying22 rfl rfl ?_
    refine TL.move rfl rfl ?_
    refine TL.done ?_
    refine Thn.go ?_
    refine TC.block ?_
    refine TC.loop1 (fun (i : Nat) => [(4, .pointer (some ⟨w.heap.size, 0, none⟩)), (5, .int .i64 (En.many D i : Int)), (15, .slice ad Ls.length c), (16, .int .i64 (Ls.length : Int)), (17, .int .i64 (i : Int))]) (fun i w' => i ≤ Ls.length ∧ (∀ j (hj : j < i) (hj2 : j < D.length), En.checkE D[j] = 0) ∧ (∃ v, Has w' w.heap.size #[v] 55 (0, 0) ∧ Own w' (w.heap.size + 1) 25 1 v (En.full (Ls.take i)).length (vals (En.full (Ls.take i)))) ∧ (∀ p ∈ En.full (Ls.take i), ∀ k, p.1.ownBlock = some k → k < w.heap.size) ∧ Ch [] w w') (fun i => Ls.length - i) 0 (by repeat (first | exact trivial | refine ⟨rfl, ?_⟩)) (⟨by omega, fun j hj => by omega, ⟨_, hb4, World.ownsRow_nil _ _ _ _⟩, fun p hp => by simp [En.full] at hp, hc4⟩) (fun i w' hH => ?_)
    obtain ⟨hi, hg, ⟨v, hQ, ho⟩, hbk, hch⟩ := hH
    have hsu := Nat.le_trans (En.many_le D i) hsum
    have hfl := En.full_len Ls i
    have hQl := hQ.lt
    refine TC.seq ?_
    refine TC.region ?_
    refine TL.lss rfl rfl rfl ?_
    refine TL.done ?_
    refine Thn.go ?_
    refine TC.seq ?_
    refine TC.condP rfl (fun h2 => ?_) (fun h2 => ?_)
    ·
      have hil : i < Ls.length := by omega
      obtain ⟨b1, o1, rfl⟩ := ha.some_ (by omega)
      have hcell : w'.cell? ⟨b1, o1 + i * 1, none⟩ = some Ls[i].1 := Rd.eltIn (f := (·.1)) (ha.ch0 hch) hil
      have hri := hr Ls[i] (List.getElem_mem hil)
      have hDi := hDg i hil
      have hmn := En.many_next (Ls := D) (k := i) (by omega)
      have hml := Nat.le_trans (En.many_le D (i + 1)) hsum
      have hfy := fun h => En.full_yes (Ls := Ls) hil h
      have hfn := fun h => En.full_no (Ls := Ls) hil h
      have hgi : En.checkE (D[i]'(by omega)) = En.checkE Ls[i].2 := by rw [hDi]
      rw [hDi] at hmn
      obtain ⟨x, ex⟩ : ∃ x, Ls[i] = x := ⟨_, rfl⟩
      rw [ex] at hcell hri hmn hfy hfn hgi
      obtain ⟨xv, r⟩ := x
      replace hri : Rd w xv 4 r.length (r.flatMap cl) := hri
      replace hmn : En.many D (i + 1) = En.many D i + r.length := hmn
      replace hgi : En.checkE (D[i]'(by omega)) = En.checkE r := hgi
      obtain ⟨ar, cr, rfl, _⟩ := hri.shape
      refine TC.skip ?_
      refine Thn.go ?_
      refine TC.seq ?_
      refine TC.block ?_
      refine TC.seq ?_
      refine TC.region ?_
      refine TL.indexAddr (i) sl22 rfl rfl (by first | rfl | omega) (by omega) rfl ?_
      refine TL.load pl25 rfl (hcell) rfl ?_
      refine TL.assign rfl rfl ?_
      refine TL.done ?_
      refine Thn.go ?_
      refine TC.seq ?_
      refine TC.seq ?_
      refine TC.region ?_
      refine TL.move rfl rfl ?_
      refine TL.call can27 rfl rfl (fn27 _ r w' (hri.ch0 hch)) (fun v22 w22 hr22 => ?_)
      obtain ⟨rfl, hc22⟩ := hr22
      refine TL.assign rfl rfl ?_
      refine TL.done ?_
      refine Thn.go ?_
      refine TC.seq ?_
      refine TC.region ?_
      refine TL.move rfl rfl ?_
      refine TL.neq rfl rfl rfl ?_
      refine TL.done ?_
      refine Thn.go ?_
      refine TC.condP rfl (fun h3 => ?_) (fun h3 => ?_)
      ·
        have hre := En.rowsE_at (Ls := D) (k := i) (by omega) (fun j hj => hg j hj (by omega)) (by rw [hgi]; show ¬ En.checkE r = 0; omega)
        obtain ⟨e1, e2⟩ := En.all_bad h64 (by rw [hre, hgi]; show ¬ En.checkE r = 0; omega)
        refine TC.seq ?_
        refine TC.region ?_
        refine TL.move rfl rfl ?_
        refine TL.assign rfl rfl ?_
        refine TL.assign rfl rfl ?_
        refine TL.done ?_
        refine Thn.go ?_
        refine TC.ret ?_
        refine Thn.ret ?_
        refine Blk.ret ?_
        refine Thn.ret ?_
        refine Lp.ret ?_
        refine Blk.ret ?_
        refine Thn.ret ?_
        refine Ends.ret [2, 3] rfl rfl ?_
        exact ⟨_, by rw [e1, hre, hgi]; rfl, by rw [e2]; exact World.ownsRow_nil _ _ _ _, hch.trans0 hc22⟩
      ·
        have hgn : ∀ j (hj : j < i + 1) (hj2 : j < D.length), En.checkE D[j] = 0 := fun j hj hj2 => by
          rcases Nat.lt_or_ge j i with h | h
          · exact hg j h hj2
          · obtain rfl : j = i := by omega
            rw [hgi]; show En.checkE r = 0; omega
        refine TC.skip ?_
        refine Thn.go ?_
        refine TC.seq ?_
        refine TC.region ?_
        refine TL.move rfl rfl ?_
        refine TL.move rfl rfl ?_
        refine TL.lenSlice Try.underlying25 rfl rfl ?_
        refine TL.add_i64 rfl rfl (by omega) (by omega) rfl ?_
        rw [show ((En.many D i : Nat) : Int) + (r.length : Int) = ((En.many D (i + 1) : Nat) : Int) by omega]
        refine TL.assign rfl rfl ?_
        refine TL.done ?_
        refine Thn.go ?_
        refine TC.seq ?_
        refine TC.region ?_
        refine TL.move rfl rfl ?_
        refine TL.lenSlice Try.underlying25 rfl rfl ?_
        refine TL.gtr rfl rfl rfl ?_
        refine TL.done ?_
        refine Thn.go ?_
        refine TC.condP rfl (fun h4 => ?_) (fun h4 => ?_)
        ·
          have hrn : r ≠ [] := fun e => by subst e; simp at h4
          refine TC.region ?_
          refine TL.load pl55 rfl ((hQ.ch0 hc22).cell 0) rfl ?_
          refine TL.move rfl rfl ?_
          refine TL.buildSlice [.tmp 34] sl55 rfl rfl rfl (by decide) (by first | simp [Value.cells]; done | simp [Value.cells, cl_len]; done) rfl (fun w35 hb35 hc35 hz35 => ?_)
          refine TL.append sl55 rfl rfl rfl ((ho.ch0 hc22).ch0 hc35) (News.ofRd Try.underlying55 (Rd.ofRow (cs := [.slice ar r.length cr]) hb35 rfl (by decide)) (one_slice _ _ _)) (by omega) (by omega) (by have := hc22.size; have := hc35.size; omega) (fun v36 w36 hv36 hc36 _ => ?_)
          obtain ⟨a36, c36, rfl⟩ := hv36.shape
          have hQ36 := ((hQ.ch0 hc22).ch0 hc35).ch hc36 (ho.notin (by omega))
          refine TL.store sz55 rfl rfl rfl hQ36 (by simp) (by simp [Value.cells, Value.oneCell']) (.inl rfl) (fun ws1 hbs1 hcs1 hzs1 => ?_)
          replace hbs1 : Has ws1 w.heap.size #[.slice a36 ((En.full (Ls.take i)).length + 1) c36] 55 (0, 0) := hbs1
          have hvs : vals (En.full (Ls.take (i + 1))) = vals (En.full (Ls.take i)) ++ [.slice ar r.length cr] := by rw [hfy hrn, vals_app]
          have hln : (En.full (Ls.take (i + 1))).length = (En.full (Ls.take i)).length + 1 := by rw [hfy hrn]; simp
          refine TL.done ?_
          refine Blk.go ?_
          refine Thn.go ?_
          refine TC.region ?_
          refine TL.add_i64 rfl rfl (by omega) (by omega) rfl ?_
          refine TL.move rfl rfl ?_
          refine TL.done ?_
          refine Lp.go (i + 1) (by repeat (first | exact trivial | refine ⟨rfl, ?_⟩)) ?_ (by first | omega | (dsimp only; omega))
          refine ⟨by omega, hgn, ⟨_, hbs1, by rw [hln, hvs]; exact hv36.ch hcs1 (fun k hk hx => by have := hv36.ge k hk; simp at hx; omega)⟩, fun p hp k hk => ?_, (((hch.trans0 hc22).trans0 hc35).thenS hc36 (fun x hx => by have := ho.ge x (by simpa [blk] using hx); omega)).thenS hcs1 (fun x hx => by simp at hx; omega)⟩
          rw [hfy hrn] at hp
          rcases List.mem_append.1 hp with h | h
          · exact hbk p h k hk
          · rw [List.mem_singleton.1 h] at hk
            rcases hri with ⟨_, h0, _⟩ | ⟨bb, oo, cc, cu, tt, ff, e, hh, _⟩
            · exact absurd (List.eq_nil_of_length_eq_zero h0) hrn
            · rw [e] at hk; simp [Value.ownBlock] at hk; have := hh.lt; omega
        ·
          have hrn : r = [] := List.eq_nil_of_length_eq_zero (by omega)
          refine TC.skip ?_
          refine Blk.go ?_
          refine Thn.go ?_
          refine TC.region ?_
          refine TL.add_i64 rfl rfl (by omega) (by omega) rfl ?_
          refine TL.move rfl rfl ?_
          refine TL.done ?_
          refine Lp.go (i + 1) (by repeat (first | exact trivial | refine ⟨rfl, ?_⟩)) ?_ (by first | omega | (dsimp only; omega))
          exact ⟨by omega, hgn, ⟨v, hQ.ch0 hc22, by rw [hfn hrn]; exact ho.ch0 hc22⟩, by rw [hfn hrn]; exact hbk, hch.trans0 hc22⟩
    ·
      have hil : i = Ls.length := by omega
      subst hil
      rw [List.take_length] at ho hbk
      have hDall := En.many_all D
      rw [hDl] at hDall
      have hre : En.rowsE D = 0 := En.rowsE_ok (fun j hj => hg j (by omega) hj)
      refine TC.exit ?_
      refine Thn.exit ?_
      refine Lp.exit ?_
      refine Blk.hit ?_
      refine Thn.go ?_
      refine TC.seq ?_
      refine TC.seq ?_
      refine TC.region ?_
      refine TL.move rfl rfl ?_
      refine TL.gtr rfl rfl rfl ?_
      refine TL.done ?_
      refine Thn.go ?_
      refine TC.condP rfl (fun h5 => ?_) (fun h5 => ?_)
      ·
        obtain ⟨e1, e2⟩ := En.all_many h64 hre (by omega)
        refine TC.seq ?_
        refine TC.region ?_
        refine TL.assign rfl rfl ?_
        refine TL.assign rfl rfl ?_
        refine TL.done ?_
        refine Thn.go ?_
        refine TC.ret ?_
        refine Thn.ret ?_
        refine Ends.ret [2, 3] rfl rfl ?_
        exact ⟨_, by rw [e1]; rfl, by rw [e2]; exact World.ownsRow_nil _ _ _ _, hch⟩
      ·
        have hmax : ¬ 16384 < D.flatten.length := by omega
        have hrows : RowsAt w' w.heap.size (En.full Ls) := fun p hp => ⟨(hr p (List.mem_filter.1 hp).1).ch0 hch, hbk p hp⟩
        have hne : ∀ p ∈ En.full Ls, p.2 ≠ [] := fun p hp => of_decide_eq_true (List.mem_filter.1 hp).2
        have hri : ∀ p ∈ Ls, p.2.Pairwise En.less := fun p hp => En.check_rises (En.rowsE_zero.1 hre p.2 (by rw [← hD]; exact List.mem_map_of_mem hp))
        refine TC.skip ?_
        refine Thn.go ?_
        refine TC.seq ?_
        refine TC.region ?_
        refine TL.mkIface Try.underlying58 rfl rfl rfl ?_
        refine TL.call can28 rfl rfl (fn28 w.heap.size v (En.full Ls) (En.full Ls).length rfl (by have := En.full_len Ls Ls.length; rw [List.take_length] at this; omega) w' hQ ho hrows hne) (fun v41 w41 hr41 => ?_)
        obtain ⟨L0, hL0, hp0, hh0, ho0, hc41⟩ := hr41
        rw [← hL0] at hh0 ho0
        have hQ41 := hQ.ch hc41 (ho.notin (by omega))
        have hr41 := (hrows.ch hc41 (blk_ge ho)).perm hp0
        have hrun0 := En.Run.start hp0 hri
        rw [hD] at hrun0
        have q41 : Ch [] w w41 := hch.thenS hc41 (fun x hx => by have := ho.ge x (by simpa [blk] using hx); omega)
        refine TL.done ?_
        refine Thn.go ?_
        refine TC.seq ?_
        refine TC.region ?_
        refine TL.assign rfl rfl ?_
        refine TL.done ?_
        refine Thn.go ?_
        refine TC.seq ?_
        refine TC.block ?_
        refine TC.loop2 (fun (n : Nat) (ov : Value) => [(4, .pointer (some ⟨w.heap.size, 0, none⟩)), (9, ov)]) (fun n ov w2 => (∃ (v : Value) (L : List Row) (out : List En.Entry), Has w2 w.heap.size #[v] 55 (0, 0) ∧ Own w2 (w.heap.size + 1) 25 1 v L.length (vals L) ∧ RowsAt w2 w.heap.size L ∧ Hp.Heap En.lt L L.length 0 ∧ En.Run D.flatten out L ∧ Own w2 w41.heap.size 32 4 ov out.length (out.flatMap cl) ∧ (∀ k, v.ownBlock = some k → k < w41.heap.size) ∧ En.left L = n) ∧ w41.heap.size ≤ w2.heap.size ∧ Ch [] w w2) (fun n _ => n) (En.left L0) (.slice none 0 0) (by repeat (first | exact trivial | refine ⟨rfl, ?_⟩)) (⟨⟨v, L0, [], hQ41, ho0, hr41, hh0, hrun0, World.ownsRow_nil _ _ _ _, fun k hk => ho0.lt k hk, rfl⟩, Nat.le_refl _, q41⟩) (fun n ov w2 hH => ?_)
        obtain ⟨⟨v2, L, out, hQ2, ho2, hrw, hh, hrun, hout, hvl, hleft⟩, hsz2, hch2⟩ := hH
        obtain ⟨ao, co, rfl⟩ := hout.shape
        have hne2 : ∀ p ∈ L, p.2 ≠ [] := fun p hp => (hrun.rows p hp).1
        have hlen := hrun.len
        have hll := En.left_zero hne2
        have hQl2 := hQ2.lt
        refine TC.seq ?_
        refine TC.seq ?_
        refine TC.region ?_
        refine TL.load pl55 rfl (hQ2.cell 0) rfl ?_
        refine TL.call can29 rfl rfl (fn29 v2 L L.length w2 (Rd.ofOwn ho2)) (fun v43 w43 hr43 => ?_)
        obtain ⟨rfl, rfl⟩ := hr43
        refine TL.gtr rfl rfl rfl ?_
        refine TL.done ?_
        refine Thn.go ?_
        refine TC.condP rfl (fun h6 => ?_) (fun h6 => ?_)
        ·
          have hszw := hsz2
          have hL0 : 0 < L.length := by omega
          refine TC.skip ?_
          refine Thn.go ?_
          refine TC.block ?_
          refine TC.seq ?_
          refine TC.region ?_
          refine TL.call can30 rfl rfl (fn30 w.heap.size v2 L L.length rfl (by omega) hL0 _ hQ2 ho2 hrw hne2 hh) (fun v45 w45 hr45 => ?_)
          obtain ⟨rfl, v3, L3, hQ3, ho3, hr3, hh3, hb3, hp3, hc45⟩ := hr45
          obtain ⟨x, hx⟩ : ∃ x, En.rec (Hp.g L 0).2 0 = x := ⟨_, rfl⟩
          have hgeq : ∀ y ∈ w.heap.size :: blk v2, w.heap.size ≤ y := fun y hy => by rcases List.mem_cons.1 hy with h | h; omega; exact blk_ge ho2 y h
          have q45 : Ch [] w w45 := hch2.thenS hc45 hgeq
          have hout45 := hout.ch hc45 (fun k hk hm => by
            have h1 := hout.ge k hk
            rcases List.mem_cons.1 hm with h | h
            · have := q41.size; have := hb4.lt; have := hQ41.lt; omega
            · have := hvl k (by simpa [blk] using h); omega)
          rw [hx]
          refine TL.alloc ze32 rfl (fun w10 hb10 hc10 hz10 => ?_)
          refine TL.store sz32 rfl rfl rfl hb10 (by simp [Value.cells]) (by simpa [Value.cells] using cl_one x) (.inl rfl) (fun ws2 hbs2 hcs2 hzs2 => ?_)
          replace hbs2 : Has ws2 w45.heap.size (cl x).toArray 32 (0, 0) := hbs2.setAll rfl
          have q10 : Ch [] w45 ws2 := hc10.then1 hcs2 (Nat.le_refl _)
          have hout2 := hout45.ch0 q10
          refine TL.done ?_
          refine Thn.go ?_
          refine TC.seq ?_
          refine TC.seq ?_
          refine TC.region ?_
          refine TL.move rfl rfl ?_
          refine TL.lenSlice Try.underlying25 rfl rfl ?_
          refine TL.assign rfl rfl ?_
          refine TL.done ?_
          refine Thn.go ?_
          refine TC.cut0 ([(4, .pointer (some ⟨w.heap.size, 0, none⟩)), (9, .slice ao out.length co), (10, .pointer (some ⟨w45.heap.size, 0, none⟩)), (59, .bool (decide (0 < out.length ∧ ¬ En.less (En.rec out (out.length - 1)) x)))]) (fun w4 => Ch [] ws2 w4) (fun K7 hK7 => ?_) (fun w4 hH22 => ?_)
          ·
            refine TC.regionQ (fun w6 => Ch [] ws2 w6) mixed0 (by kernel_rfl) (Ch.drew [] _) ?_
            refine TQ.via rfl rfl rfl rfl (fun w2 hw2 => TL.move rfl rfl (TL.done ⟨rfl, rfl⟩)) ?_
            refine TQ.via rfl rfl rfl rfl (fun w2 hw2 => TL.gtr rfl rfl rfl (TL.done ⟨rfl, rfl⟩)) ?_
            refine TQ.em (fun e49 => ?_) (fun e49 => ?_)
            ·
              have ho0' : 0 < out.length := by omega
              obtain ⟨b5, o5, rfl, hall5⟩ := recAll (Rd.ofOwn hout2) ho0'
              refine TQ.via rfl rfl rfl rfl (fun w2 hw2 => TL.move rfl rfl (TL.done ⟨rfl, rfl⟩)) ?_
              refine TQ.guardYes (d := 50) rfl rfl rfl ?_
              refine TQ.via rfl rfl rfl rfl (fun w2 hw2 => TL.move rfl rfl (TL.done ⟨rfl, rfl⟩)) ?_
              refine TQ.guardYes (d := 50) rfl rfl rfl ?_
              refine TQ.via rfl rfl rfl rfl (fun w2 hw2 => TL.move rfl rfl (TL.done ⟨rfl, rfl⟩)) ?_
              refine TQ.guardYes (d := 50) rfl rfl rfl ?_
              refine TQ.via rfl rfl rfl rfl (fun w2 hw2 => TL.sub_i64 rfl rfl (by omega) (by omega) rfl (TL.done ⟨rfl, rfl⟩)) ?_
              refine TQ.guardYes (d := 50) rfl rfl rfl ?_
              refine TQ.via rfl rfl rfl rfl (fun w2 hw2 => TL.indexAddr (out.length - 1) sl25 rfl rfl (by first | rfl | omega) (by omega) rfl (TL.done ⟨rfl, rfl⟩)) ?_
              refine TQ.guardYes (d := 50) rfl rfl rfl ?_
              refine TQ.via rfl rfl rfl rfl (fun w2 hw2 => TL.loadAgg (cl (En.rec out (out.length - 1))) ag32 rfl rfl (fun j hj => hall5 _ (by omega) _ hw2 j hj) rfl (TL.done ⟨rfl, rfl⟩)) ?_
              refine TQ.guardYes (d := 50) rfl rfl rfl ?_
              refine TQ.via rfl rfl rfl rfl (fun w2 hw2 => TL.loadAgg (cl x) ag32 rfl rfl (fun j _ => by rw [(hbs2.ch0 hw2).cell, Nat.zero_add, List.getElem?_toArray]) rfl (TL.done ⟨rfl, rfl⟩)) ?_
              refine TQ.guardYes (d := 50) rfl rfl rfl ?_
              refine TQ.call (.bool (decide (En.less (En.rec out (out.length - 1)) x))) can14 rfl rfl (fun w2 hw2 => (fn14 _ x w2).mono (fun _ _ ⟨q1, q2⟩ => ⟨q1, hw2.trans0 q2⟩)) ?_
              refine TQ.guardYes (d := 50) rfl rfl rfl ?_
              refine TQ.via rfl rfl rfl rfl (fun w2 hw2 => TL.notP rfl rfl (TL.done ⟨rfl, rfl⟩)) ?_
              refine TQ.via rfl rfl rfl rfl (fun w2 hw2 => TL.pickT rfl rfl rfl rfl (TL.done ⟨rfl, rfl⟩)) ?_
              refine TQ.done (fun w2 hw2 => ?_)
              exact hK7  _ _ (by repeat (first | exact trivial | refine ⟨rfl, ?_⟩ | refine ⟨congrArg (fun b => some (Value.bool b)) (by first | exact (decide_eq_true (by grind)).symm | exact (decide_eq_false (by grind)).symm | exact decide_eq_decide.2 (by grind) | exact decide_eq_true (by grind) | exact decide_eq_false (by grind) | (exfalso; grind)), ?_⟩)) (hw2)
            ·
              refine TQ.via rfl rfl rfl rfl (fun w2 hw2 => TL.move rfl rfl (TL.done ⟨rfl, rfl⟩)) ?_
              refine TQ.guardNo (d := 50) rfl rfl rfl rfl rfl ?_
              refine TQ.guardNo (d := 50) rfl rfl rfl rfl rfl ?_
              refine TQ.guardNo (d := 50) rfl rfl rfl rfl rfl ?_
              refine TQ.guardNo (d := 50) rfl rfl rfl rfl rfl ?_
              refine TQ.guardNo (d := 50) rfl rfl rfl rfl rfl ?_
              refine TQ.guardNo (d := 50) rfl rfl rfl rfl rfl ?_
              refine TQ.guardNo (d := 50) rfl rfl rfl rfl rfl ?_
              refine TQ.guardNo (d := 50) rfl rfl rfl rfl rfl ?_
              refine TQ.via rfl rfl rfl rfl (fun w2 hw2 => TL.pickF rfl rfl rfl rfl (TL.done ⟨rfl, rfl⟩)) ?_
              refine TQ.done (fun w2 hw2 => ?_)
              exact hK7  _ _ (by repeat (first | exact trivial | refine ⟨rfl, ?_⟩ | refine ⟨congrArg (fun b => some (Value.bool b)) (by first | exact (decide_eq_true (by grind)).symm | exact (decide_eq_false (by grind)).symm | exact decide_eq_decide.2 (by grind) | exact decide_eq_true (by grind) | exact decide_eq_false (by grind) | (exfalso; grind)), ?_⟩)) (hw2)
          ·
            have q22 := q10.trans0 hH22
            refine TC.condP rfl (fun h9 => ?_) (fun h9 => ?_)
            ·
              have hcl : 0 < out.length ∧ ¬ En.less (En.rec out (out.length - 1)) x := by assumption
              obtain ⟨e1, e2⟩ := En.all_clash h64 hre hmax (hrun.clash hh hL0 hcl.1 (by rw [hx]; exact hcl.2))
              refine TC.seq ?_
              refine TC.region ?_
              refine TL.assign rfl rfl ?_
              refine TL.assign rfl rfl ?_
              refine TL.done ?_
              refine Thn.go ?_
              refine TC.ret ?_
              refine Thn.ret ?_
              refine Blk.ret ?_
              refine Lp.ret ?_
              refine Blk.ret ?_
              refine Thn.ret ?_
              refine Ends.ret [2, 3] rfl rfl ?_
              exact ⟨_, by rw [e1]; rfl, by rw [e2]; exact World.ownsRow_nil _ _ _ _, q45.trans0 q22⟩
            ·
              have hcl : ¬ (0 < out.length ∧ ¬ En.less (En.rec out (out.length - 1)) x) := by assumption
              have hok : out.length = 0 ∨ En.less (En.rec out (out.length - 1)) (En.rec (Hp.g L 0).2 0) := by
                rw [hx]
                rcases Nat.eq_zero_or_pos out.length with h | h
                · exact .inl h
                · exact .inr (Decidable.not_not.1 (fun h2 => hcl ⟨h, h2⟩))
              have hp3' : ∃ b, (L3.Perm (L.drop 1) ∧ (Hp.g L 0).2.drop 1 = [] ∨ L3.Perm ((b, (Hp.g L 0).2.drop 1) :: L.drop 1) ∧ (Hp.g L 0).2.drop 1 ≠ []) := by
                rcases hp3 with h | ⟨b, h⟩
                · exact ⟨.nilIface, .inl h⟩
                · exact ⟨b, .inr h⟩
              obtain ⟨b3, hp3'⟩ := hp3'
              have hrun3 := hrun.take hh hL0 hok hp3'
              rw [hx] at hrun3
              have hlen3 := hrun3.len
              rw [List.length_append, List.length_singleton] at hlen3
              refine TC.skip ?_
              refine Thn.go ?_
              refine TC.region ?_
              refine TL.move rfl rfl ?_
              refine TL.loadAgg (cl x) ag32 rfl rfl (fun j _ => by rw [(hbs2.ch0 hH22).cell, Nat.zero_add, List.getElem?_toArray]) rfl ?_
              refine TL.buildSlice [.tmp 61] sl25 rfl rfl rfl (by decide) (by first | simp [Value.cells]; done | simp [Value.cells, cl_len]; done) rfl (fun w62 hb62 hc62 hz62 => ?_)
              refine TL.append sl25 rfl rfl rfl ((hout2.ch0 hH22).ch0 hc62) (News.ofRd Try.underlying25 (recOne hb62) (rows_one _)) (by omega) (by omega) (by have := q22.size; have := hc62.size; have := hc45.size; omega) (fun v63 w63 hv63 hc63 _ => ?_)
              have q63 : Ch (blk (.slice ao out.length co)) w45 w63 := (q22.trans0 hc62).trans hc63 (by simp) (fun x h _ => h)
              have hqo : w.heap.size ∉ blk (.slice ao out.length co) := hout.notin (by have := hQ41.lt; omega)
              have hvo : ∀ k, v3.ownBlock = some k → k ∉ blk (.slice ao out.length co) := fun k hk hm => by
                rw [hb3] at hk
                have h1 := hvl k hk
                have h2 := hout.ge k (by simpa [blk] using hm)
                omega
              refine TL.assign rfl rfl ?_
              refine TL.done ?_
              refine Blk.go ?_
              refine Lp.go ((En.left L3, v63)) (by repeat (first | exact trivial | refine ⟨rfl, ?_⟩)) ?_ (by first | omega | (dsimp only; omega))
              refine ⟨⟨v3, L3, out ++ [x], hQ3.ch q63 hqo, ho3.ch q63 hvo, hr3.ch q63 (fun y hy => by have := hout.ge y (by simpa [blk] using hy); have := hQ41.lt; omega), hh3, hrun3, by rw [List.length_append, List.flatMap_append]; exact hv63, fun k hk => hvl k (by rw [← hb3]; exact hk), rfl⟩, by have := hc45.size; have := q63.size; omega, q45.thenS q63 (fun y hy => by have := hout.ge y (by simpa [blk] using hy); have := hQ41.lt; omega)⟩
        ·
          have hLn : L = [] := List.eq_nil_of_length_eq_zero (by omega)
          obtain ⟨e1, e2⟩ := En.all_ok h64 hre hmax (by have := hrun.perm; rw [hLn] at this; simpa using this) hrun.sorted
          refine TC.exit ?_
          refine Thn.exit ?_
          refine Lp.exit ?_
          refine Blk.hit ?_
          refine Thn.go ?_
          refine TC.seq ?_
          refine TC.region ?_
          refine TL.move rfl rfl ?_
          refine TL.assign rfl rfl ?_
          refine TL.assign rfl rfl ?_
          refine TL.done ?_
          refine Thn.go ?_
          refine TC.ret ?_
          refine Ends.ret [2, 3] rfl rfl ?_
          exact ⟨_, by rw [e1]; rfl, by rw [e2]; exact hout.base q41.size, hch2⟩

