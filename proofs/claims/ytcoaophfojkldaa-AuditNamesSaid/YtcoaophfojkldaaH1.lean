/-
  Walks through the given program: each theorem fnN says what the call of function N of the translation hands back, for all arguments that its premises describe, and that nothing that was there has turned.
-/
import Derived.Test.YtcoaophfojkldaaB1
namespace Go.Proofs.Ytcoaophfojkldaa
open Go.Lane
open Go.RowKit (Below)
theorem can45 : Callable Try.prog 45 := ⟨Try.f45, Try.func45, by kernel_rfl, rfl⟩
theorem can48 : Callable Try.prog 48 := ⟨Try.f48, Try.func48, by kernel_rfl, rfl⟩
theorem can23 : Callable Try.prog 23 := ⟨Try.f23, Try.func23, by kernel_rfl, rfl⟩
theorem can44 : Callable Try.prog 44 := ⟨Try.f44, Try.func44, by kernel_rfl, rfl⟩
theorem can60 : Callable Try.prog 60 := ⟨Try.f60, Try.func60, by kernel_rfl, rfl⟩
theorem can62 : Callable Try.prog 62 := ⟨Try.f62, Try.func62, by kernel_rfl, rfl⟩

theorem fn60 (c : UInt8) (w : World) : Rets Try.prog 60 #[str Hex.digits, u8 c] w (fun v w' => v = .int .i64 (Hex.wI c) ∧ w' = w) :=
  (Try.strings_IndexByte ⟨Hex.digits.toArray⟩ (c.toNat : Int) w).mono fun _ _ ⟨he, hw⟩ => ⟨_, he, by
    have e : ((c.toNat : Int).toNat).toUInt8 = c := by
      apply UInt8.toNat.inj
      have := UInt8.toNat_lt c
      show (UInt8.ofNat c.toNat).toNat = _
      rw [UInt8.toNat_ofNat']; omega
    rw [e]; exact congrArg _ (Hex.index_worth c), hw⟩

theorem fn23 (a : Value) (l : List UInt8) (w : World) (ha : Rd w a 1 l.length (l.map u8)) (hl : l.length ≤ 100000) : Rets Try.prog 23 #[a] w (fun v w' => v = str (Hex.hexL l) ∧ Ch [] w w') := by
  obtain ⟨ad, c, rfl, _⟩ := ha.shape
  refine Rets.of (n := 22) (vs := [_]) Try.func23 rfl rfl rfl ?_
  refine TC.seq ?_
  refine TC.region ?_
  refine TL.assign rfl rfl ?_
  refine TL.done ?_
  refine Thn.go ?_
  refine TC.seq ?_
  refine TC.region ?_
  refine TL.alloc ze63 rfl (fun w3 hb3 hc3 hz3 => ?_)
  refine TL.done ?_
  refine Thn.go ?_
  refine TC.seq ?_
  refine TC.seq ?_
  refine TC.region ?_
  refine TL.move rfl rfl ?_
  refine TL.lenSlice Try.underlying50 rfl rfl ?_
  refine TL.move rfl rfl ?_
  refine TL.done ?_
  refine Thn.go ?_
  refine TC.block ?_
  refine TC.loop1 (fun (k : Nat) => [(3, .pointer (some ⟨w.heap.size, 0, none⟩)), (6, .slice ad l.length c), (7, .int .i64 (l.length : Int)), (8, .int .i64 (k : Int))]) (fun k w' => k ≤ l.length ∧ Bld w.heap.size (Hex.hexL (l.take k)) w' ∧ Ch [] w w') (fun k => l.length - k) 0 (by repeat (first | exact trivial | refine ⟨rfl, ?_⟩)) (⟨by omega, .inl ⟨Nat.le_refl _, _, hb3, World.ownsRow_nil _ _ _ _, by simp [Value.ownBlock]⟩, hc3⟩) (fun k w' hH => ?_)
  obtain ⟨hk, hbl, hch⟩ := hH
  refine TC.seq ?_
  refine TC.region ?_
  refine TL.lss rfl rfl rfl ?_
  refine TL.done ?_
  refine Thn.go ?_
  refine TC.seq ?_
  refine TC.condP rfl (fun h1 => ?_) (fun h1 => ?_)
  ·
    have hkl : k < l.length := by omega
    have hlen := Hex.hexL_len (l.take k)
    rw [List.length_take] at hlen
    obtain ⟨b, off, rfl, hcell⟩ := (ha.ch0 hch).byteAt hkl
    have hx := UInt8.toNat_lt (l.getD k 0)
    refine TC.skip ?_
    refine Thn.go ?_
    refine TC.seq ?_
    refine TC.block ?_
    refine TC.seq ?_
    refine TC.region ?_
    refine TL.indexAddr (k) sl50 rfl rfl (by first | rfl | omega) (by omega) rfl ?_
    refine TL.load pl5 rfl (hcell) rfl ?_
    refine TL.assign rfl rfl ?_
    refine TL.done ?_
    refine Thn.go ?_
    refine TC.seq ?_
    refine TC.region ?_
    refine TL.move rfl rfl ?_
    refine TL.shr_u8 rfl rfl (by decide) rfl ?_
    refine TL.call can39 rfl rfl (fn39 _ w' (by rw [Hex.shr4]; omega)) (fun v14 w14 hr14 => ?_)
    rw [Hex.shr4] at hr14
    obtain ⟨rfl, rfl⟩ := hr14
    refine TL.call can38 rfl rfl (fn38 _ _ _ w14 hbl (by omega)) (fun v15 w15 hr15 => ?_)
    obtain ⟨hbl15, hbe15⟩ := hr15
    refine TL.done ?_
    refine Thn.go ?_
    refine TC.region ?_
    refine TL.move rfl rfl ?_
    refine TL.and_u8 (b := 15) rfl rfl rfl ?_
    refine TL.call can39 rfl rfl (fn39 _ w15 (by rw [Hex.and15]; omega)) (fun v18 w18 hr18 => ?_)
    rw [Hex.and15] at hr18
    obtain ⟨rfl, rfl⟩ := hr18
    refine TL.call can38 rfl rfl (fn38 _ _ _ w18 hbl15 (by rw [List.length_append]; simp; omega)) (fun v19 w19 hr19 => ?_)
    obtain ⟨hbl19, hbe19⟩ := hr19
    rw [← Hex.hexL_take hkl] at hbl19
    refine TL.done ?_
    refine Blk.go ?_
    refine Thn.go ?_
    refine TC.region ?_
    refine TL.add_i64 rfl rfl (by omega) (by omega) rfl ?_
    refine TL.move rfl rfl ?_
    refine TL.done ?_
    refine Lp.go (k + 1) (by repeat (first | exact trivial | refine ⟨rfl, ?_⟩)) ?_ (by first | omega | (dsimp only; omega))
    exact ⟨by omega, hbl19, hch.thenBelow (hbe15.trans hbe19) (Nat.le_refl _)⟩
  ·
    have hkl : k = l.length := by omega
    rw [hkl, List.take_length] at hbl
    refine TC.exit ?_
    refine Thn.exit ?_
    refine Lp.exit ?_
    refine Blk.hit ?_
    refine Thn.go ?_
    refine TC.seq ?_
    refine TC.region ?_
    refine TL.call can40 rfl rfl (fn40 _ _ w' hbl) (fun v21 w21 hr21 => ?_)
    obtain ⟨rfl, hbe21⟩ := hr21
    refine TL.assign rfl rfl ?_
    refine TL.done ?_
    refine Thn.go ?_
    refine TC.ret ?_
    refine Ends.ret [2] rfl rfl ?_
    exact ⟨rfl, hch.thenBelow hbe21 (Nat.le_refl _)⟩

theorem fn44 (a : Value) (l : List UInt8) (w : World) (ha : Rd w a 1 l.length (l.map u8)) (hl : l.length ≤ 100000) : Rets Try.prog 44 #[a] w (fun v w' => v = str (Hex.hexL l) ∧ Ch [] w w') := by
  obtain ⟨ad, c, rfl, _⟩ := ha.shape
  have hmm : maxLen = 9223372036854775807 := rfl
  refine Rets.of (n := 28) (vs := [_]) Try.func44 rfl rfl rfl ?_
  refine TC.seq ?_
  refine TC.region ?_
  refine TL.assign rfl rfl ?_
  refine TL.done ?_
  refine Thn.go ?_
  refine TC.seq ?_
  refine TC.region ?_
  refine TL.assign rfl rfl ?_
  refine TL.done ?_
  refine Thn.go ?_
  refine TC.seq ?_
  refine TC.seq ?_
  refine TC.region ?_
  refine TL.assign rfl rfl ?_
  refine TL.done ?_
  refine Thn.go ?_
  refine TC.block ?_
  refine TC.loop2 (fun (k : Nat) (v : Value) => [(0, .slice ad l.length c), (3, v), (4, .int .i64 (k : Int))]) (fun k v w' => k ≤ l.length ∧ Own w' w.heap.size 5 1 v (Hex.hexL (l.take k)).length ((Hex.hexL (l.take k)).map u8) ∧ Ch [] w w') (fun k _ => l.length - k) 0 (.slice none 0 0) (by repeat (first | exact trivial | refine ⟨rfl, ?_⟩)) (⟨by omega, World.ownsRow_nil _ _ _ _, Ch.refl _ _⟩) (fun k v w' hH => ?_)
  obtain ⟨hk, hown, hch⟩ := hH
  refine TC.seq ?_
  refine TC.seq ?_
  refine TC.region ?_
  refine TL.move rfl rfl ?_
  refine TL.move rfl rfl ?_
  refine TL.lenSlice Try.underlying50 rfl rfl ?_
  refine TL.lss rfl rfl rfl ?_
  refine TL.done ?_
  refine Thn.go ?_
  refine TC.condP rfl (fun h1 => ?_) (fun h1 => ?_)
  ·
    have hkl : k < l.length := by omega
    have hlen := Hex.hexL_len (l.take k)
    rw [List.length_take] at hlen
    obtain ⟨b, off, rfl, hcell⟩ := (ha.ch0 hch).byteAt hkl
    have hx := UInt8.toNat_lt (l.getD k 0)
    have hsz := hch.size
    have e16 : (l.getD k 0 / 16).toNat = (l.getD k 0).toNat / 16 := by rw [UInt8.toNat_div]; rfl
    have e15 : (l.getD k 0 % 16).toNat = (l.getD k 0).toNat % 16 := by rw [UInt8.toNat_mod]; rfl
    obtain ⟨N, hN⟩ : ∃ N, (Hex.hexL (l.take k)).length = N := ⟨_, rfl⟩
    have hN2 : N ≤ 200000 := by omega
    refine TC.skip ?_
    refine Thn.go ?_
    refine TC.seq ?_
    refine TC.block ?_
    refine TC.regionH (fun w2 => Ch [] w w2) mixed0 ?_
    have hS : (fun w2 => Ch [] w w2) _ := hch.trans0 (Ch.drew _ _)
    refine TH.take (i := 0) rfl rfl rfl rfl rfl (by kernel_rfl) (by kernel_rfl) (by kernel_rfl) hS (fun w2 hw2 => TL.move rfl rfl (TL.done ⟨rfl, rfl⟩)) ?_
    refine TH.take (i := 1) rfl rfl rfl rfl rfl (by kernel_rfl) (by kernel_rfl) (by kernel_rfl) hS (fun w2 hw2 => TL.move rfl rfl (TL.done ⟨rfl, rfl⟩)) ?_
    refine TH.take (i := 2) rfl rfl rfl rfl rfl (by kernel_rfl) (by kernel_rfl) (by kernel_rfl) hS (fun w2 hw2 => TL.move rfl rfl (TL.done ⟨rfl, rfl⟩)) ?_
    refine TH.take (i := 3) rfl rfl rfl rfl rfl (by kernel_rfl) (by kernel_rfl) (by kernel_rfl) hS (fun w2 hw2 => TL.indexAddr (k) sl50 rfl rfl (by first | rfl | omega) (by omega) rfl (TL.done ⟨rfl, rfl⟩)) ?_
    refine TH.take (i := 4) rfl rfl rfl rfl rfl (by kernel_rfl) (by kernel_rfl) (by kernel_rfl) hS (fun w2 hw2 => TL.load pl5 rfl (by obtain ⟨b', off', e, hc'⟩ := (ha.ch0 hw2).byteAt hkl; cases e; exact hc') rfl (TL.done ⟨rfl, rfl⟩)) ?_
    refine TH.take (i := 5) rfl rfl rfl rfl rfl (by kernel_rfl) (by kernel_rfl) (by kernel_rfl) hS (fun w2 hw2 => TL.quo_u8 (b := 16) rfl rfl (by decide) rfl (TL.done ⟨rfl, rfl⟩)) ?_
    refine TH.take (i := 6) rfl rfl rfl rfl rfl (by kernel_rfl) (by kernel_rfl) (by kernel_rfl) hS (fun w2 hw2 => TL.indexStr (l := Hex.digits) (j := (l.getD k 0 / 16).toNat) Try.underlying9 rfl rfl rfl (Hex.digits_at (by omega)) rfl (TL.done ⟨rfl, rfl⟩)) ?_
    refine TH.take (i := 7) rfl rfl rfl rfl rfl (by kernel_rfl) (by kernel_rfl) (by kernel_rfl) hS (fun w2 hw2 => TL.move rfl rfl (TL.done ⟨rfl, rfl⟩)) ?_
    refine TH.take (i := 8) rfl rfl rfl rfl rfl (by kernel_rfl) (by kernel_rfl) (by kernel_rfl) hS (fun w2 hw2 => TL.move rfl rfl (TL.done ⟨rfl, rfl⟩)) ?_
    refine TH.take (i := 9) rfl rfl rfl rfl rfl (by kernel_rfl) (by kernel_rfl) (by kernel_rfl) hS (fun w2 hw2 => TL.indexAddr (k) sl50 rfl rfl (by first | rfl | omega) (by omega) rfl (TL.done ⟨rfl, rfl⟩)) ?_
    refine TH.take (i := 10) rfl rfl rfl rfl rfl (by kernel_rfl) (by kernel_rfl) (by kernel_rfl) hS (fun w2 hw2 => TL.load pl5 rfl (by obtain ⟨b', off', e, hc'⟩ := (ha.ch0 hw2).byteAt hkl; cases e; exact hc') rfl (TL.done ⟨rfl, rfl⟩)) ?_
    refine TH.take (i := 11) rfl rfl rfl rfl rfl (by kernel_rfl) (by kernel_rfl) (by kernel_rfl) hS (fun w2 hw2 => TL.rem_u8 (b := 16) rfl rfl (by decide) rfl (TL.done ⟨rfl, rfl⟩)) ?_
    refine TH.take (i := 12) rfl rfl rfl rfl rfl (by kernel_rfl) (by kernel_rfl) (by kernel_rfl) hS (fun w2 hw2 => TL.indexStr (l := Hex.digits) (j := (l.getD k 0 % 16).toNat) Try.underlying9 rfl rfl rfl (Hex.digits_at (by omega)) rfl (TL.done ⟨rfl, rfl⟩)) ?_
    refine TH.one (i := 13) (by kernel_rfl) rfl rfl ?_
    refine TL.buildSlice [.tmp 17, .tmp 23] sl50 rfl rfl rfl (by decide) (by first | simp [Value.cells]; done | simp [Value.cells, cl_len]; done) rfl (fun w24 hb24 hc24 hz24 => ?_)
    have hS : (fun w2 => Ch [] w w2) _ := hS.trans0 hc24
    refine TL.done ⟨hS, ?_⟩
    refine TH.one (i := 14) (by kernel_rfl) rfl rfl ?_
    have ho24 : Own w24 w.heap.size 5 1 v N ((Hex.hexL (l.take k)).map u8) := by rw [← hN]; exact (hown.ch0 (Ch.drew _ _)).ch0 hc24
    have hrd : Rd w24 (.slice (some ⟨w'.drew.heap.size, 0, none⟩) 2 2) 1 2 ([Hex.hx (l.getD k 0 / 16).toNat, Hex.hx (l.getD k 0 % 16).toNat].map u8) := Rd.ofBytes [_, _] hb24 (by simp [hmm])
    have hz : w'.drew.heap.size = w'.heap.size := rfl
    refine TL.append sl50 rfl rfl rfl ho24 (News.ofRd Try.underlying50 hrd (one_u8 _)) (by omega) (by omega) (by omega) (fun v25 w25 hv25 hc25 _ => ?_)
    have hS : (fun w2 => Ch [] w w2) _ := ho24.thenCh hS hc25
    refine TL.done ⟨hS, ?_⟩
    refine TH.take (i := 15) rfl rfl rfl rfl rfl (by kernel_rfl) (by kernel_rfl) (by kernel_rfl) hS (fun w2 hw2 => TL.assign rfl rfl (TL.done ⟨rfl, rfl⟩)) ?_
    refine TH.done (by kernel_rfl) ?_
    refine Blk.go ?_
    refine Thn.go ?_
    refine TC.region ?_
    refine TL.move rfl rfl ?_
    refine TL.add_i64 rfl rfl (by omega) (by omega) rfl ?_
    refine TL.assign rfl rfl ?_
    refine TL.done ?_
    refine Lp.go ((k + 1, v25)) (by repeat (first | exact trivial | refine ⟨rfl, ?_⟩)) ?_ (by first | omega | (dsimp only; omega))
    refine ⟨by show k + 1 ≤ _; omega, ?_, hS⟩
    show Own w25 w.heap.size 5 1 v25 (Hex.hexL (l.take (k + 1))).length ((Hex.hexL (l.take (k + 1))).map u8)
    rw [e16, e15] at hv25
    rw [Hex.hexL_take hkl, List.append_assoc, List.length_append, List.map_append, hN]
    exact hv25
  ·
    have hkl : k = l.length := by omega
    rw [hkl, List.take_length] at hown
    refine TC.exit ?_
    refine Thn.exit ?_
    refine Lp.exit ?_
    refine Blk.hit ?_
    refine Thn.go ?_
    refine TC.seq ?_
    refine TC.region ?_
    refine TL.move rfl rfl ?_
    refine TL.bytesToStr Try.underlying50 Try.underlying5 Try.underlying9 rfl (Rd.bytes (Hex.hexL l) (Rd.ofOwn hown) rfl rfl) rfl ?_
    refine TL.assign rfl rfl ?_
    refine TL.done ?_
    refine Thn.go ?_
    refine TC.ret ?_
    refine Ends.ret [2] rfl rfl ?_
    exact ⟨rfl, hch⟩

