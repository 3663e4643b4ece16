/-
  Walks through the given program: each theorem fnN says what the call of function N of the translation hands back, for all arguments that its premises describe, and that nothing that was there has turned.
-/
import Derived.Test.YtkgckmdhlokjmaaDoorB5
import Derived.Test.YtkgckmdhlokjmaaDoorLaws
namespace Go.Proofs.YtkgckmdhlokjmaaDoor
open Go.Lane
open Go.Key
open Go.RowKit (Below)
theorem can21 : Callable Tryd.prog 21 := ⟨Tryd.f21, Tryd.func21, by kernel_rfl, rfl⟩
theorem can23 : Callable Tryd.prog 23 := ⟨Tryd.f23, Tryd.func23, by kernel_rfl, rfl⟩
theorem can25 : Callable Tryd.prog 25 := ⟨Tryd.f25, Tryd.func25, by kernel_rfl, rfl⟩
theorem can26 : Callable Tryd.prog 26 := ⟨Tryd.f26, Tryd.func26, by kernel_rfl, rfl⟩

theorem fn10 (av : Value) (l : List Part) (w : World) (h : Sh w) (hin : ∀ p ∈ l, inI p.int) (ha : Rd w av 3 l.length (l.flatMap cl)) : Rets Tryd.prog 10 #[av] w (fun r w' => r = .tuple #[str (makeS l), .int .i64 (makeE l : Int)] ∧ Ch [] w w') := by
  obtain ⟨ad, c, rfl, _⟩ := ha.shape
  have hmm : maxLen = 9223372036854775807 := rfl
  have hmx : l.length ≤ 9223372036854775807 := ha.nlt
  refine Rets.of (n := 72) (vs := [_]) Tryd.func10 rfl rfl rfl ?_
  refine TC.seq ?_
  refine TC.region ?_
  refine TL.assign rfl rfl ?_
  refine TL.assign rfl rfl ?_
  refine TL.done ?_
  refine Thn.go ?_
  refine TC.seq ?_
  refine TC.seq ?_
  refine TC.region ?_
  refine TL.move rfl rfl ?_
  refine TL.lenSlice Tryd.underlying22 rfl rfl ?_
  refine TL.gtr rfl rfl rfl ?_
  refine TL.done ?_
  refine Thn.go ?_
  refine TC.condP rfl (fun h1 => ?_) (fun h1 => ?_)
  ·
    have e1 : makeE l = 4 := if_pos (by omega)
    have e2 : makeS l = [] := if_neg (by omega)
    refine TC.seq ?_
    refine TC.region ?_
    refine TL.assign rfl rfl ?_
    refine TL.assign rfl rfl ?_
    refine TL.done ?_
    refine Thn.go ?_
    refine TC.ret ?_
    refine Thn.ret ?_
    refine Ends.ret [2, 3] rfl rfl ?_
    exact ⟨by rw [e1, e2]; rfl, Ch.refl _ _⟩
  ·
    have h8l : ¬ 8 < l.length := by omega
    refine TC.skip ?_
    refine Thn.go ?_
    refine TC.seq ?_
    refine TC.seq ?_
    refine TC.region ?_
    refine TL.move rfl rfl ?_
    refine TL.lenSlice Tryd.underlying22 rfl rfl ?_
    refine TL.move rfl rfl ?_
    refine TL.done ?_
    refine Thn.go ?_
    refine TC.block ?_
    refine TC.loop1 (fun (k : Nat) => [(0, .slice ad l.length c), (13, .slice ad l.length c), (14, .int .i64 (l.length : Int)), (15, .int .i64 (k : Int))]) (fun k w' => k ≤ l.length ∧ (∀ p ∈ l.take k, may p) ∧ Ch [] w w') (fun k => l.length - k) 0 (by repeat (first | exact trivial | refine ⟨rfl, ?_⟩)) (⟨by omega, by simp, Ch.refl _ _⟩) (fun k w' hH => ?_)
    obtain ⟨hk, hmay, hch⟩ := hH
    refine TC.seq ?_
    refine TC.region ?_
    refine TL.lss rfl rfl rfl ?_
    refine TL.done ?_
    refine Thn.go ?_
    refine TC.seq ?_
    refine TC.condP rfl (fun h2 => ?_) (fun h2 => ?_)
    ·
      have hkl : k < l.length := by omega
      obtain ⟨b1, o1, rfl, hce1⟩ := Rd.elt cl_len (by decide) (ha.ch0 hch) hkl
      refine TC.skip ?_
      refine Thn.go ?_
      refine TC.seq ?_
      refine TC.block ?_
      refine TC.seq ?_
      refine TC.region ?_
      refine TL.indexAddr (k) sl22 rfl rfl (by first | rfl | omega) (by omega) rfl ?_
      refine TL.loadAgg (cl l[k]) ag29 rfl rfl (fun j hj => hce1 j hj) rfl ?_
      refine TL.alloc ze29 rfl (fun w5 hb5 hc5 hz5 => ?_)
      refine TL.store sz29 rfl rfl rfl (hb5) (by first | omega | simp [Value.cells]) (by simp [Value.cells, cl, Value.oneCell']) (.inl rfl) (fun ws1 hbs1 hcs1 hzs1 => ?_)
      replace hbs1 : Has ws1 w'.heap.size (cl l[k]).toArray 29 (0, 0) := hbs1.setAll rfl
      have hch1 : Ch [] w' ws1 := hc5.then1 hcs1 (Nat.le_refl _)
      have k1 : (((l[k].kind).toNat : Int) = 1 ↔ l[k].kind = 1) := kind_eq (y := 1)
      have k2 : (((l[k].kind).toNat : Int) = 2 ↔ l[k].kind = 2) := kind_eq (y := 2)
      have hmd : may l[k] ↔ (l[k].kind = 1 ∧ l[k].text = []) ∨ (l[k].kind = 2 ∧ l[k].int = 0) := Iff.rfl
      refine TL.done ?_
      refine Thn.go ?_
      refine TC.regionBool (d := 36) (p := (¬ may l[k])) (fun K3 hK3 => ?_) ?_
      ·
        refine TL.fieldAddr fd29k0 rfl rfl ?_
        refine TL.load pl5 rfl (hbs1.cell _) rfl ?_
        refine TL.neq rfl rfl rfl ?_
        refine TL.em (fun e21 => ?_) (fun e21 => ?_)
        ·
          refine TL.move rfl rfl ?_
          refine TL.guardNo (d := 22) rfl rfl rfl rfl rfl ?_
          refine TL.guardNo (d := 22) rfl rfl rfl rfl rfl ?_
          refine TL.guardNo (d := 22) rfl rfl rfl rfl rfl ?_
          refine TL.pickT rfl rfl rfl rfl ?_
          refine TL.move rfl rfl ?_
          refine TL.guardYes (d := 27) rfl rfl rfl ?_
          refine TL.fieldAddr fd29k0 rfl rfl ?_
          refine TL.guardYes (d := 27) rfl rfl rfl ?_
          refine TL.load pl5 rfl (hbs1.cell _) rfl ?_
          refine TL.guardYes (d := 27) rfl rfl rfl ?_
          refine TL.neq rfl rfl rfl ?_
          refine TL.em (fun e30 => ?_) (fun e30 => ?_)
          ·
            refine TL.guardYes (d := 27) rfl rfl rfl ?_
            refine TL.move rfl rfl ?_
            refine TL.guardNo (d := 31) rfl rfl rfl rfl rfl ?_
            refine TL.guardNo (d := 31) rfl rfl rfl rfl rfl ?_
            refine TL.guardNo (d := 31) rfl rfl rfl rfl rfl ?_
            refine TL.guardYes (d := 27) rfl rfl rfl ?_
            refine TL.pickT rfl rfl rfl rfl ?_
            refine TL.pickT rfl rfl rfl rfl ?_
            refine TL.done ?_
            refine hK3 _ ?_
            refine Le.here rfl (by first | exact decide_eq_true (by omega) | exact decide_eq_false (by omega) | exact decide_eq_decide.2 (by omega) | exact decide_eq_true (by grind) | exact decide_eq_false (by grind) | exact decide_eq_decide.2 (by grind)) ?_
            repeat (first | exact Le.refl _ | refine Le.skip rfl ?_)
          ·
            refine TL.guardYes (d := 27) rfl rfl rfl ?_
            refine TL.move rfl rfl ?_
            refine TL.guardYes (d := 31) rfl rfl rfl ?_
            refine TL.fieldAddr fd29k1 rfl rfl ?_
            refine TL.guardYes (d := 31) rfl rfl rfl ?_
            refine TL.load pl2 rfl (hbs1.cell _) rfl ?_
            refine TL.guardYes (d := 31) rfl rfl rfl ?_
            refine TL.neq rfl rfl rfl ?_
            refine TL.guardYes (d := 27) rfl rfl rfl ?_
            refine TL.pickF rfl rfl rfl rfl ?_
            refine TL.pickT rfl rfl rfl rfl ?_
            refine TL.done ?_
            refine hK3 _ ?_
            refine Le.here rfl (by first | exact decide_eq_true (by omega) | exact decide_eq_false (by omega) | exact decide_eq_decide.2 (by omega) | exact decide_eq_true (by grind) | exact decide_eq_false (by grind) | exact decide_eq_decide.2 (by grind)) ?_
            repeat (first | exact Le.refl _ | refine Le.skip rfl ?_)
        ·
          refine TL.move rfl rfl ?_
          refine TL.guardYes (d := 22) rfl rfl rfl ?_
          refine TL.fieldAddr fd29k2 rfl rfl ?_
          refine TL.guardYes (d := 22) rfl rfl rfl ?_
          refine TL.load pl9 rfl (hbs1.cell _) rfl ?_
          refine TL.guardYes (d := 22) rfl rfl rfl ?_
          refine TL.neqStr rfl rfl rfl ?_
          refine TL.em (fun e25 => ?_) (fun e25 => ?_)
          ·
            refine TL.pickF rfl rfl rfl rfl ?_
            refine TL.move rfl rfl ?_
            refine TL.guardYes (d := 27) rfl rfl rfl ?_
            refine TL.fieldAddr fd29k0 rfl rfl ?_
            refine TL.guardYes (d := 27) rfl rfl rfl ?_
            refine TL.load pl5 rfl (hbs1.cell _) rfl ?_
            refine TL.guardYes (d := 27) rfl rfl rfl ?_
            refine TL.neq rfl rfl rfl ?_
            refine TL.em (fun e30 => ?_) (fun e30 => ?_)
            ·
              refine TL.guardYes (d := 27) rfl rfl rfl ?_
              refine TL.move rfl rfl ?_
              refine TL.guardNo (d := 31) rfl rfl rfl rfl rfl ?_
              refine TL.guardNo (d := 31) rfl rfl rfl rfl rfl ?_
              refine TL.guardNo (d := 31) rfl rfl rfl rfl rfl ?_
              refine TL.guardYes (d := 27) rfl rfl rfl ?_
              refine TL.pickT rfl rfl rfl rfl ?_
              refine TL.pickT rfl rfl rfl rfl ?_
              refine TL.done ?_
              refine hK3 _ ?_
              refine Le.here rfl (by first | exact decide_eq_true (by omega) | exact decide_eq_false (by omega) | exact decide_eq_decide.2 (by omega) | exact decide_eq_true (by grind) | exact decide_eq_false (by grind) | exact decide_eq_decide.2 (by grind)) ?_
              repeat (first | exact Le.refl _ | refine Le.skip rfl ?_)
            ·
              refine TL.guardYes (d := 27) rfl rfl rfl ?_
              refine TL.move rfl rfl ?_
              refine TL.guardYes (d := 31) rfl rfl rfl ?_
              refine TL.fieldAddr fd29k1 rfl rfl ?_
              refine TL.guardYes (d := 31) rfl rfl rfl ?_
              refine TL.load pl2 rfl (hbs1.cell _) rfl ?_
              refine TL.guardYes (d := 31) rfl rfl rfl ?_
              refine TL.neq rfl rfl rfl ?_
              refine TL.guardYes (d := 27) rfl rfl rfl ?_
              refine TL.pickF rfl rfl rfl rfl ?_
              refine TL.pickT rfl rfl rfl rfl ?_
              refine TL.done ?_
              refine hK3 _ ?_
              refine Le.here rfl (by first | exact decide_eq_true (by omega) | exact decide_eq_false (by omega) | exact decide_eq_decide.2 (by omega) | exact decide_eq_true (by grind) | exact decide_eq_false (by grind) | exact decide_eq_decide.2 (by grind)) ?_
              repeat (first | exact Le.refl _ | refine Le.skip rfl ?_)
          ·
            refine TL.pickF rfl rfl rfl rfl ?_
            refine TL.move rfl rfl ?_
            refine TL.guardNo (d := 27) rfl rfl rfl rfl rfl ?_
            refine TL.guardNo (d := 27) rfl rfl rfl rfl rfl ?_
            refine TL.guardNo (d := 27) rfl rfl rfl rfl rfl ?_
            refine TL.guardNo (d := 27) rfl rfl rfl rfl rfl ?_
            refine TL.guardUndef (d := 31) rfl rfl rfl rfl ?_
            refine TL.guardUndef (d := 31) rfl rfl rfl rfl ?_
            refine TL.guardUndef (d := 31) rfl rfl rfl rfl ?_
            refine TL.guardNo (d := 27) rfl rfl rfl rfl rfl ?_
            refine TL.pickF rfl rfl rfl rfl ?_
            refine TL.done ?_
            refine hK3 _ ?_
            refine Le.here rfl (by first | exact decide_eq_true (by omega) | exact decide_eq_false (by omega) | exact decide_eq_decide.2 (by omega) | exact decide_eq_true (by grind) | exact decide_eq_false (by grind) | exact decide_eq_decide.2 (by grind)) ?_
            repeat (first | exact Le.refl _ | refine Le.skip rfl ?_)
      refine TC.condP rfl (fun h8 => ?_) (fun h8 => ?_)
      ·
        have e1 : makeE l = 8 := by rw [makeE, if_neg h8l, if_pos (fun x => absurd (x _ (List.getElem_mem hkl)) (by assumption))]
        have e2 : makeS l = [] := if_neg (by omega)
        refine TC.seq ?_
        refine TC.region ?_
        refine TL.assign rfl rfl ?_
        refine TL.assign rfl rfl ?_
        refine TL.done ?_
        refine Thn.go ?_
        refine TC.ret ?_
        refine Blk.ret ?_
        refine Thn.ret ?_
        refine Lp.ret ?_
        refine Blk.ret ?_
        refine Thn.ret ?_
        refine Ends.ret [2, 3] rfl rfl ?_
        exact ⟨by rw [e1, e2]; rfl, hch.trans0 hch1⟩
      ·
        refine TC.skip ?_
        refine Blk.go ?_
        refine Thn.go ?_
        refine TC.region ?_
        refine TL.add_i64 rfl rfl (by omega) (by omega) rfl ?_
        refine TL.move rfl rfl ?_
        refine TL.done ?_
        refine Lp.go (k + 1) (by repeat (first | exact trivial | refine ⟨rfl, ?_⟩)) ?_ (by first | omega | (dsimp only; omega))
        refine ⟨by omega, fun p hp => ?_, hch.trans0 hch1⟩
        rw [List.take_add_one, List.getElem?_eq_getElem hkl] at hp
        rcases List.mem_append.1 hp with x | x
        · exact hmay p x
        · simp at x; subst x; exact Decidable.not_not.1 (by assumption)
    ·
      have hall : ∀ p ∈ l, may p := fun p hp => hmay p (by rw [List.take_of_length_le (by omega)]; exact hp)
      refine TC.exit ?_
      refine Thn.exit ?_
      refine Lp.exit ?_
      refine Blk.hit ?_
      refine Thn.go ?_
      refine TC.seq ?_
      refine TC.region ?_
      refine TL.alloc ze48 rfl (fun w6 hb6 hc6 hz6 => ?_)
      have hbd0 : Bd w'.heap.size (.slice none 0 0) [] w6 := ⟨none, .inl rfl, hb6, World.ownsRow_nil _ _ _ _, by simp [Value.ownBlock]⟩
      refine TL.done ?_
      refine Thn.go ?_
      refine TC.seq ?_
      refine TC.seq ?_
      refine TC.region ?_
      refine TL.move rfl rfl ?_
      refine TL.lenSlice Tryd.underlying22 rfl rfl ?_
      refine TL.move rfl rfl ?_
      refine TL.done ?_
      refine Thn.go ?_
      refine TC.block ?_
      refine TC.loop1 (fun (j : Nat) => [(0, .slice ad l.length c), (6, .pointer (some ⟨w'.heap.size, 0, none⟩)), (38, .slice ad l.length c), (39, .int .i64 (l.length : Int)), (40, .int .i64 (j : Int))]) (fun j u' => j ≤ l.length ∧ (∃ v, Bd w'.heap.size v (keyL (l.take j)) u' ∧ ∀ b, v.ownBlock = some b → w.heap.size ≤ b) ∧ (keyL (l.take j)).length ≤ j * 515 ∧ Ch [] w u') (fun j => l.length - j) 0 (by repeat (first | exact trivial | refine ⟨rfl, ?_⟩)) (⟨by omega, ⟨_, hbd0, by simp [Value.ownBlock]⟩, by simp [keyL], hch.trans0 hc6⟩) (fun j u' hH => ?_)
      obtain ⟨hj, ⟨v, hbd, hvb⟩, hkl, hch2⟩ := hH
      have hBw : w.heap.size ≤ w'.heap.size := hch.size
      refine TC.seq ?_
      refine TC.region ?_
      refine TL.lss rfl rfl rfl ?_
      refine TL.done ?_
      refine Thn.go ?_
      refine TC.seq ?_
      refine TC.condP rfl (fun h9 => ?_) (fun h9 => ?_)
      ·
        have hjl : j < l.length := by omega
        obtain ⟨b1, o1, rfl, hce1⟩ := Rd.elt cl_len (by decide) (ha.ch0 hch2) hjl
        have hvlt : ∀ b, v.ownBlock = some b → b < u'.heap.size := by obtain ⟨_, _, _, ho, _⟩ := hbd; exact ho.lt
        have hBlt := hbd.lt
        refine TC.skip ?_
        refine Thn.go ?_
        refine TC.seq ?_
        refine TC.block ?_
        refine TC.seq ?_
        refine TC.region ?_
        refine TL.indexAddr (j) sl22 rfl rfl (by first | rfl | omega) (by omega) rfl ?_
        refine TL.loadAgg (cl l[j]) ag29 rfl rfl (fun i hi => hce1 i hi) rfl ?_
        refine TL.alloc ze29 rfl (fun w8 hb8 hc8 hz8 => ?_)
        refine TL.store sz29 rfl rfl rfl (hb8) (by first | omega | simp [Value.cells]) (by simp [Value.cells, cl, Value.oneCell']) (.inl rfl) (fun ws2 hbs2 hcs2 hzs2 => ?_)
        replace hbs2 : Has ws2 u'.heap.size (cl l[j]).toArray 29 (0, 0) := hbs2.setAll rfl
        have hch3 : Ch [] u' ws2 := hc8.then1 hcs2 (Nat.le_refl _)
        have hul := hbs2.lt
        refine TL.done ?_
        refine Thn.go ?_
        refine TC.seq ?_
        refine TC.region ?_
        refine TL.fieldAddr fd29k0 rfl rfl ?_
        refine TL.load pl5 rfl (hbs2.cell _) rfl ?_
        refine TL.call can20 rfl rfl (fn20 _ v _ l[j].kind ws2 (hbd.ch0 hch3) (by omega)) (fun v46 w46 hr46 => ?_)
        obtain ⟨⟨v1, hbd3, hvb3⟩, hc46⟩ := hr46
        have q46 : Ch [] w w46 := (hch2.trans0 hch3).thenS hc46 (fun x hx => by rcases List.mem_cons.1 hx with h | h; omega; exact hvb x (by simpa [blk] using h))
        have hbs3 : Has w46 u'.heap.size (cl l[j]).toArray 29 (0, 0) := hbs2.ch hc46 (fun hx => by rcases List.mem_cons.1 hx with h | h; omega; have := hvlt _ (by simpa [blk] using h); omega)
        have hv1 : ∀ b, v1.ownBlock = some b → w.heap.size ≤ b := fun b hb => by
          rcases hvb3 b hb with h | h
          · exact hvb b h
          · have := hch2.size; omega
        have hv1l : ∀ b, v1.ownBlock = some b → b < w46.heap.size := by obtain ⟨_, _, _, ho, _⟩ := hbd3; exact ho.lt
        have hB46 := hbd3.lt
        have hsn := key_snoc hjl
        refine TL.done ?_
        refine Thn.go ?_
        refine TC.seq ?_
        refine TC.seq ?_
        refine TC.region ?_
        refine TL.fieldAddr fd29k0 rfl rfl ?_
        refine TL.load pl5 rfl (hbs3.cell _) rfl ?_
        refine TL.eql rfl rfl rfl ?_
        refine TL.done ?_
        refine Thn.go ?_
        refine TC.condP rfl (fun h10 => ?_) (fun h10 => ?_)
        ·
          have hk1 : l[j].kind = 1 := kind_eq.1 (by assumption)
          refine TC.seq ?_
          refine TC.region ?_
          refine TL.fieldAddr fd29k1 rfl rfl ?_
          refine TL.load pl2 rfl (hbs3.cell _) rfl ?_
          refine TL.convI_u64 Tryd.underlying2 Tryd.underlying53 rfl rfl ?_
          refine TL.xor_u64 (b := 9223372036854775808) rfl rfl rfl ?_
          refine TL.call can21 rfl rfl (fn21 _ w46) (fun v54 w54 hr54 => ?_)
          obtain ⟨nb, rfl, hnb, hbn, hc54⟩ := hr54
          refine TL.assign rfl rfl ?_
          refine TL.done ?_
          refine Thn.go ?_
          refine TC.seq ?_
          refine TC.region ?_
          refine TL.move rfl rfl ?_
          refine TL.call can22 rfl rfl (fn22 nb 8 _ 75 (0, 0) (Bits.put (UInt64.ofNat (l[j].int % 18446744073709551616).toNat ^^^ 9223372036854775808)) (by rw [Bits.put_len]; omega) w54 hbn (by simp) (List.take_of_length_le (by simp)) (.inl rfl)) (fun v56 w56 hr56 => ?_)
          obtain ⟨⟨cur7, hb7, hs7, ht7⟩, hc56⟩ := hr56
          rw [be_put, off_xor (hin _ (List.getElem_mem hjl)), Bits.put_len] at ht7
          replace hs7 : cur7.size = 8 := by rw [hs7, List.size_toArray, List.length_map, Bits.put_len]
          have hrv : Rd w56 (.slice (some ⟨nb, 0, none⟩) 8 8) 1 (beN 8 (offI l[j].int)).length ((beN 8 (offI l[j].int)).map u8) := by
            rw [beN_len]
            exact .inr ⟨_, 0, 8, cur7, 75, (0, 0), rfl, hb7, by omega, by omega, by omega, by rw [List.drop_zero, Nat.mul_one, ht7]⟩
          have q56 : Ch [] w46 w56 := hc54.then1 hc56 hnb
          refine TL.done ?_
          refine Thn.go ?_
          refine TC.seq ?_
          refine TC.region ?_
          refine TL.move rfl rfl ?_
          refine TL.call can23 rfl rfl (fn23 _ v1 _ _ (beN 8 (offI l[j].int)) w56 (hbd3.ch0 q56) hrv (fun k hk => by simp [Value.ownBlock] at hk; omega) (by rw [beN_len, List.length_append, List.length_singleton]; omega)) (fun v58 w58 hr58 => ?_)
          obtain ⟨⟨v2, hbd5, hvb5⟩, hc58⟩ := hr58
          have q58 : Ch [] w w58 := (q46.trans0 q56).thenS hc58 (fun x hx => by rcases List.mem_cons.1 hx with h | h; omega; exact hv1 x (by simpa [blk] using h))
          refine TL.done ?_
          refine Thn.go ?_
          refine TC.exit ?_
          refine Thn.exit ?_
          refine Blk.hit ?_
          refine Thn.go ?_
          refine TC.region ?_
          refine TL.add_i64 rfl rfl (by omega) (by omega) rfl ?_
          refine TL.move rfl rfl ?_
          refine TL.done ?_
          refine Lp.go (j + 1) (by repeat (first | exact trivial | refine ⟨rfl, ?_⟩)) ?_ (by first | omega | (dsimp only; omega))
          refine ⟨by omega, ⟨v2, ?_, fun b hb => ?_⟩, ?_, q58⟩
          · rw [hsn, part_int hk1, ← List.append_assoc]; exact hbd5
          · rcases hvb5 b hb with h | h
            · exact hv1 b h
            · have := (q46.trans0 q56).size; omega
          · rw [hsn, part_int hk1]; simp [beN_len]; omega
        ·
          have hk1 : ¬ l[j].kind = 1 := fun e => absurd (congrArg (fun x : UInt8 => (x.toNat : Int)) e) (by assumption)
          have hpt := part_text (hall _ (List.getElem_mem hjl)) hk1
          refine TC.skip ?_
          refine Thn.go ?_
          refine TC.seq ?_
          refine TC.seq ?_
          refine TC.region ?_
          refine TL.fieldAddr fd29k2 rfl rfl ?_
          refine TL.load pl9 rfl (hbs3.cell _) rfl ?_
          refine TL.lenStr Tryd.underlying9 rfl rfl ?_
          refine TL.gtr rfl rfl rfl ?_
          refine TL.done ?_
          refine Thn.go ?_
          refine TC.condP rfl (fun h11 => ?_) (fun h11 => ?_)
          ·
            have e1 : makeE l = 60 := by
              have h1 := key_ge (List.getElem_mem hjl)
              have h2 := esc_len l[j].text
              rw [hpt] at h1
              simp only [List.length_append] at h1
              rw [makeE, if_neg h8l, if_neg (fun x => x hall), if_pos (by omega)]
            have e2 : makeS l = [] := if_neg (by omega)
            refine TC.seq ?_
            refine TC.region ?_
            refine TL.assign rfl rfl ?_
            refine TL.assign rfl rfl ?_
            refine TL.done ?_
            refine Thn.go ?_
            refine TC.ret ?_
            refine Thn.ret ?_
            refine Blk.ret ?_
            refine Thn.ret ?_
            refine Lp.ret ?_
            refine Blk.ret ?_
            refine Thn.ret ?_
            refine Ends.ret [2, 3] rfl rfl ?_
            exact ⟨by rw [e1, e2]; rfl, q46⟩
          ·
            refine TC.skip ?_
            refine Thn.go ?_
            refine TC.seq ?_
            refine TC.region ?_
            refine TL.fieldAddr fd29k2 rfl rfl ?_
            refine TL.load pl9 rfl (hbs3.cell _) rfl ?_
            refine TL.call can25 rfl rfl (fn25 l[j].text (by omega) w46 (h.ch0 q46)) (fun v65 w65 hr65 => ?_)
            obtain ⟨rfl, hc65⟩ := hr65
            have hle := esc_le2 l[j].text
            refine TL.call can24 rfl rfl (fn24 _ v1 _ (esc l[j].text) w65 (hbd3.ch0 hc65) (by rw [List.length_append, List.length_singleton]; omega)) (fun v66 w66 hr66 => ?_)
            obtain ⟨⟨v2, hbd4, hvb4⟩, hc66⟩ := hr66
            have q66 : Ch [] w w66 := (q46.trans0 hc65).thenS hc66 (fun x hx => by rcases List.mem_cons.1 hx with h | h; omega; exact hv1 x (by simpa [blk] using h))
            have hv2 : ∀ b, v2.ownBlock = some b → w.heap.size ≤ b := fun b hb => by
              rcases hvb4 b hb with h | h
              · exact hv1 b h
              · have := (q46.trans0 hc65).size; omega
            refine TL.done ?_
            refine Thn.go ?_
            refine TC.region ?_
            refine TL.call can24 rfl rfl (fn24 _ v2 _ [0, 1] w66 hbd4 (by simp only [List.length_append, List.length_cons, List.length_nil]; omega)) (fun v67 w67 hr67 => ?_)
            obtain ⟨⟨v3, hbd5, hvb5⟩, hc67⟩ := hr67
            have q67 : Ch [] w w67 := q66.thenS hc67 (fun x hx => by rcases List.mem_cons.1 hx with h | h; omega; exact hv2 x (by simpa [blk] using h))
            refine TL.done ?_
            refine Blk.go ?_
            refine Thn.go ?_
            refine TC.region ?_
            refine TL.add_i64 rfl rfl (by omega) (by omega) rfl ?_
            refine TL.move rfl rfl ?_
            refine TL.done ?_
            refine Lp.go (j + 1) (by repeat (first | exact trivial | refine ⟨rfl, ?_⟩)) ?_ (by first | omega | (dsimp only; omega))
            refine ⟨by omega, ⟨v3, ?_, fun b hb => ?_⟩, ?_, q67⟩
            · rw [hsn, hpt, ← List.append_assoc, ← List.append_assoc]; exact hbd5
            · rcases hvb5 b hb with h | h
              · exact hv2 b h
              · have := q66.size; omega
            · rw [hsn, hpt]; simp; omega
      ·
        have hjn : l.take j = l := List.take_of_length_le (by omega)
        rw [hjn] at hbd hkl
        refine TC.exit ?_
        refine Thn.exit ?_
        refine Lp.exit ?_
        refine Blk.hit ?_
        refine Thn.go ?_
        refine TC.seq ?_
        refine TC.seq ?_
        refine TC.region ?_
        refine TL.call can26 rfl rfl (fn26 _ v _ u' hbd) (fun v69 w69 hr69 => ?_)
        obtain ⟨rfl, e69⟩ := hr69
        rw [← e69] at hbd hch2
        refine TL.gtr rfl rfl rfl ?_
        refine TL.done ?_
        refine Thn.go ?_
        refine TC.condP rfl (fun h12 => ?_) (fun h12 => ?_)
        ·
          have e1 : makeE l = 60 := by rw [makeE, if_neg h8l, if_neg (fun x => x hall), if_pos (by omega)]
          have e2 : makeS l = [] := if_neg (by omega)
          refine TC.seq ?_
          refine TC.region ?_
          refine TL.assign rfl rfl ?_
          refine TL.assign rfl rfl ?_
          refine TL.done ?_
          refine Thn.go ?_
          refine TC.ret ?_
          refine Thn.ret ?_
          refine Ends.ret [2, 3] rfl rfl ?_
          exact ⟨by rw [e1, e2]; rfl, hch2⟩
        ·
          have e1 : makeE l = 0 := by rw [makeE, if_neg h8l, if_neg (fun x => x hall), if_neg (by omega)]
          have e2 : makeS l = keyL l := if_pos e1
          refine TC.skip ?_
          refine Thn.go ?_
          refine TC.seq ?_
          refine TC.region ?_
          refine TL.call can27 rfl rfl (fn27 _ v _ _ hbd) (fun v71 w71 hr71 => ?_)
          obtain ⟨rfl, hb71⟩ := hr71
          refine TL.assign rfl rfl ?_
          refine TL.assign rfl rfl ?_
          refine TL.done ?_
          refine Thn.go ?_
          refine TC.ret ?_
          refine Ends.ret [2, 3] rfl rfl ?_
          exact ⟨by rw [e1, e2]; rfl, hch2.thenBelow hb71 hBw⟩

