/-
  Walks through the given program: each theorem fnN says what the call of function N of the translation hands back, for all arguments that its premises describe, and that nothing that was there has turned.
-/
import Derived.Test.YtkgckmdhlokjmaaDoorB1
import Derived.Test.YtkgckmdhlokjmaaDoorEsc
namespace Go.Proofs.YtkgckmdhlokjmaaDoor
open Go.Lane
open Go.Key
open Go.RowKit (Below)

/-- Turned round as far as 'i' from both ends. -/
def rev (l : List UInt8) (i : Nat) : List UInt8 := (List.range l.length).map fun k => if k < i ∨ l.length - i ≤ k then l.getD (l.length - 1 - k) 0 else l.getD k 0
theorem rev_len (l : List UInt8) (i : Nat) : (rev l i).length = l.length := by simp [rev]
theorem rev_at {l : List UInt8} {i k : Nat} (h : k < l.length) : (rev l i)[k]? = some (if k < i ∨ l.length - i ≤ k then l.getD (l.length - 1 - k) 0 else l.getD k 0) := by
  rw [rev, List.getElem?_map, List.getElem?_range h]; rfl
theorem rev_zero (l : List UInt8) : rev l 0 = l := by
  refine List.ext_getElem? (fun k => ?_)
  rcases Nat.lt_or_ge k l.length with h | h
  · rw [rev_at h, if_neg (by omega), List.getElem?_eq_getElem h, List.getD_eq_getElem?_getD, List.getElem?_eq_getElem h]; rfl
  · rw [List.getElem?_eq_none (by rw [rev_len]; exact h), List.getElem?_eq_none h]
theorem rev_all {l : List UInt8} {i : Nat} (h : l.length ≤ 2 * i + 1) : rev l i = l.reverse := by
  refine List.ext_getElem? (fun k => ?_)
  rcases Nat.lt_or_ge k l.length with hk | hk
  · rw [rev_at hk, List.getElem?_reverse hk]
    by_cases h2 : k < i ∨ l.length - i ≤ k
    · rw [if_pos h2, List.getD_eq_getElem?_getD, List.getElem?_eq_getElem (by omega)]; rfl
    · rw [if_neg h2, show l.length - 1 - k = k by omega, List.getD_eq_getElem?_getD, List.getElem?_eq_getElem hk]; rfl
  · rw [List.getElem?_eq_none (by rw [rev_len]; exact hk), List.getElem?_eq_none (by simpa using hk)]
theorem rev_next {l : List UInt8} {i : Nat} (h : 2 * i + 1 < l.length) : ((rev l i).set i (l.getD (l.length - 1 - i) 0)).set (l.length - 1 - i) (l.getD i 0) = rev l (i + 1) := by
  refine List.ext_getElem? (fun k => ?_)
  rcases Nat.lt_or_ge k l.length with hk | hk
  · rw [rev_at hk, List.getElem?_set, List.getElem?_set, List.length_set, rev_len, rev_at hk]
    by_cases h1 : l.length - 1 - i = k
    · rw [if_pos h1, if_pos (by omega), if_pos (by omega), show l.length - 1 - k = i by omega]
    · rw [if_neg h1]
      by_cases h2 : i = k
      · rw [if_pos h2, if_pos (by omega), if_pos (by omega), h2]
      · rw [if_neg h2]
        by_cases h3 : k < i ∨ l.length - i ≤ k
        · rw [if_pos h3, if_pos (by omega)]
        · rw [if_neg h3, if_neg (by omega)]
  · rw [List.getElem?_eq_none (by simp [rev_len]; exact hk), List.getElem?_eq_none (by rw [rev_len]; exact hk)]
theorem set_u8 (l : List UInt8) (i : Nat) (x : UInt8) : (l.map u8).set i (u8 x) = (l.set i x).map u8 := by rw [List.map_set]

theorem fn22 (g c : Nat) (cur : Array Value) (tb : TypeId) (fr : Nat × Nat) (l : List UInt8) (hl : l.length ≤ 1000000) (w : World) (hb : Has w g cur tb fr) (hsz : l.length ≤ cur.size) (hcur : cur.toList.take l.length = l.map u8) (hfr : fr = (0, 0) ∨ l.length ≤ fr.1) : Rets Tryd.prog 22 #[.slice (some ⟨g, 0, none⟩) l.length c] w (fun _ w' => (∃ cur' : Array Value, Has w' g cur' tb fr ∧ cur'.size = cur.size ∧ cur'.toList.take l.length = l.reverse.map u8) ∧ Ch [g] w w') := by
  have hmm : maxLen = 9223372036854775807 := rfl
  refine Rets.of (n := 28) (vs := [_]) Tryd.func22 rfl rfl rfl ?_
  refine TC.seq ?_
  refine TC.region ?_
  refine TL.move rfl rfl ?_
  refine TL.lenSlice Tryd.underlying37 rfl rfl ?_
  refine TL.sub_i64 rfl rfl (by omega) (by omega) rfl ?_
  rw [show (l.length : Int) - 1 = (l.length : Int) - 1 - ((0 : Nat) : Int) by omega]
  refine TL.assign rfl rfl ?_
  refine TL.assign rfl rfl ?_
  refine TL.done ?_
  refine Thn.go ?_
  refine TC.block ?_
  refine TC.loop1 (fun (i : Nat) => [(0, .slice (some ⟨g, 0, none⟩) l.length c), (2, .int .i64 (i : Int)), (3, .int .i64 ((l.length : Int) - 1 - (i : Int)))]) (fun i w' => 2 * i ≤ l.length + 1 ∧ (∃ cu : Array Value, Has w' g cu tb fr ∧ cu.size = cur.size ∧ cu.toList.take l.length = (rev l i).map u8) ∧ Ch [g] w w') (fun i => l.length - i) 0 (by repeat (first | exact trivial | refine ⟨rfl, ?_⟩)) (⟨by omega, ⟨cur, hb, rfl, by rw [rev_zero]; exact hcur⟩, Ch.refl _ _⟩) (fun i w' hI => ?_)
  obtain ⟨hi, ⟨cu, hcu, hcus, hcut⟩, hch⟩ := hI
  refine TC.seq ?_
  refine TC.seq ?_
  refine TC.region ?_
  refine TL.move rfl rfl ?_
  refine TL.move rfl rfl ?_
  refine TL.lss rfl rfl rfl ?_
  refine TL.done ?_
  refine Thn.go ?_
  refine TC.condP rfl (fun h1 => ?_) (fun h1 => ?_)
  ·
    have hil : 2 * i + 1 < l.length := by omega
    have hcell : ∀ k, k < l.length → w'.drew.cell? ⟨g, 0 + k * 1, none⟩ = some (u8 (if k < i ∨ l.length - i ≤ k then l.getD (l.length - 1 - k) 0 else l.getD k 0)) := fun k hk => by
      have h1 := congrArg (fun x => x[k]?) hcut
      simp only [List.getElem?_take, if_pos hk, List.getElem?_map, rev_at hk] at h1
      rw [Nat.mul_one, (hcu.ch0 (Ch.drew [] _)).cell, Nat.zero_add, ← Array.getElem?_toList, h1]; rfl
    have hci := hcell i (by omega)
    have hcj := hcell (l.length - 1 - i) (by omega)
    rw [if_neg (by omega)] at hci hcj
    have hnx := rev_next hil
    have hfin : (((cu.setIfInBounds i (u8 (l.getD (l.length - 1 - i) 0))).setIfInBounds (l.length - 1 - i) (u8 (l.getD i 0))).toList).take l.length = (rev l (i + 1)).map u8 := by
      rw [Array.toList_setIfInBounds, Array.toList_setIfInBounds, List.take_set, List.take_set, hcut, set_u8, set_u8, hnx]
    refine TC.skip ?_
    refine Thn.go ?_
    refine TC.seq ?_
    refine TC.block ?_
    refine TC.regionH (fun w2 => Ch [g] w' w2) mixed0 ?_
    have hS : (fun w2 => Ch [g] w' w2) _ := Ch.drew [g] _
    refine TH.take (i := 0) rfl rfl rfl rfl rfl (by kernel_rfl) (by kernel_rfl) (by kernel_rfl) hS (fun w2 hw2 => TL.move rfl rfl (TL.done ⟨rfl, rfl⟩)) ?_
    refine TH.take (i := 1) rfl rfl rfl rfl rfl (by kernel_rfl) (by kernel_rfl) (by kernel_rfl) hS (fun w2 hw2 => TL.move rfl rfl (TL.done ⟨rfl, rfl⟩)) ?_
    refine TH.take (i := 2) rfl rfl rfl rfl rfl (by kernel_rfl) (by kernel_rfl) (by kernel_rfl) hS (fun w2 hw2 => TL.move rfl rfl (TL.done ⟨rfl, rfl⟩)) ?_
    refine TH.take (i := 3) rfl rfl rfl rfl rfl (by kernel_rfl) (by kernel_rfl) (by kernel_rfl) hS (fun w2 hw2 => TL.move rfl rfl (TL.done ⟨rfl, rfl⟩)) ?_
    refine TH.take (i := 4) rfl rfl rfl rfl rfl (by kernel_rfl) (by kernel_rfl) (by kernel_rfl) hS (fun w2 hw2 => TL.move rfl rfl (TL.done ⟨rfl, rfl⟩)) ?_
    refine TH.take (i := 5) rfl rfl rfl rfl rfl (by kernel_rfl) (by kernel_rfl) (by kernel_rfl) hS (fun w2 hw2 => TL.move rfl rfl (TL.done ⟨rfl, rfl⟩)) ?_
    refine TH.take (i := 6) rfl rfl rfl rfl rfl (by kernel_rfl) (by kernel_rfl) (by kernel_rfl) hS (fun w2 hw2 => TL.indexAddr (l.length - 1 - i) sl37 rfl rfl (by first | rfl | omega) (by omega) rfl (TL.done ⟨rfl, rfl⟩)) ?_
    refine TH.take (i := 8) rfl rfl rfl rfl rfl (by kernel_rfl) (by kernel_rfl) (by kernel_rfl) hS (fun w2 hw2 => TL.move rfl rfl (TL.done ⟨rfl, rfl⟩)) ?_
    refine TH.take (i := 9) rfl rfl rfl rfl rfl (by kernel_rfl) (by kernel_rfl) (by kernel_rfl) hS (fun w2 hw2 => TL.move rfl rfl (TL.done ⟨rfl, rfl⟩)) ?_
    refine TH.take (i := 10) rfl rfl rfl rfl rfl (by kernel_rfl) (by kernel_rfl) (by kernel_rfl) hS (fun w2 hw2 => TL.indexAddr (i) sl37 rfl rfl (by first | rfl | omega) (by omega) rfl (TL.done ⟨rfl, rfl⟩)) ?_
    refine TH.two (i := 7) (j := 11) (by kernel_rfl) rfl rfl rfl rfl ?_ ?_
    ·
      refine TL.load pl5 rfl (hcj) rfl ?_
      have hS : (fun w2 => Ch [g] w' w2) _ := hS
      refine TL.done ⟨hS, ?_⟩
      refine TH.one (i := 11) (by kernel_rfl) rfl rfl ?_
      refine TL.load pl5 rfl (hci) rfl ?_
      have hS : (fun w2 => Ch [g] w' w2) _ := hS
      refine TL.done ⟨hS, ?_⟩
      refine TH.take (i := 12) rfl rfl rfl rfl rfl (by kernel_rfl) (by kernel_rfl) (by kernel_rfl) hS (fun w2 hw2 => TL.indexAddr (i) sl37 rfl rfl (by first | rfl | omega) (by omega) rfl (TL.done ⟨rfl, rfl⟩)) ?_
      refine TH.one (i := 13) (by kernel_rfl) rfl rfl ?_
      refine TL.store sz5 rfl rfl rfl (hcu.ch0 (Ch.drew [] _)) (by omega) (by simp [Value.cells, Value.oneCell']) (by rcases hfr with h | h; exact .inl h; exact .inr (fun j h1 h2 h3 => by omega)) (fun ws1 hbs1 hcs1 hzs1 => ?_)
      replace hbs1 : Has ws1 g (cu.setIfInBounds i (u8 (l.getD (l.length - 1 - i) 0))) tb fr := by rw [Nat.zero_add, Nat.mul_one] at hbs1; exact hbs1.setOne rfl (by omega)
      have hS : (fun w2 => Ch [g] w' w2) _ := Ch.trans hS hcs1 (fun x h _ => h) (fun x h _ => h)
      refine TL.done ⟨hS, ?_⟩
      refine TH.take (i := 14) rfl rfl rfl rfl rfl (by kernel_rfl) (by kernel_rfl) (by kernel_rfl) hS (fun w2 hw2 => TL.indexAddr (l.length - 1 - i) sl37 rfl rfl (by first | rfl | omega) (by omega) rfl (TL.done ⟨rfl, rfl⟩)) ?_
      refine TH.one (i := 15) (by kernel_rfl) rfl rfl ?_
      refine TL.store sz5 rfl rfl rfl hbs1 (by simp; omega) (by simp [Value.cells, Value.oneCell']) (by rcases hfr with h | h; exact .inl h; exact .inr (fun j h1 h2 h3 => by omega)) (fun ws2 hbs2 hcs2 hzs2 => ?_)
      replace hbs2 : Has ws2 g ((cu.setIfInBounds i (u8 (l.getD (l.length - 1 - i) 0))).setIfInBounds (l.length - 1 - i) (u8 (l.getD i 0))) tb fr := by rw [Nat.zero_add, Nat.mul_one] at hbs2; exact hbs2.setOne rfl (by simp; omega)
      have hS : (fun w2 => Ch [g] w' w2) _ := Ch.trans hS hcs2 (fun x h _ => h) (fun x h _ => h)
      refine TL.done ⟨hS, ?_⟩
      refine TH.done (by kernel_rfl) ?_
      refine Blk.go ?_
      refine Thn.go ?_
      refine TC.region ?_
      refine TL.move rfl rfl ?_
      refine TL.add_i64 rfl rfl (by omega) (by omega) rfl ?_
      refine TL.move rfl rfl ?_
      refine TL.sub_i64 rfl rfl (by omega) (by omega) rfl ?_
      rw [show (l.length : Int) - 1 - (i : Int) - 1 = (l.length : Int) - 1 - ((i + 1 : Nat) : Int) by omega]
      refine TL.assign rfl rfl ?_
      refine TL.assign rfl rfl ?_
      refine TL.done ?_
      refine Lp.go (i + 1) (by repeat (first | exact trivial | refine ⟨rfl, ?_⟩)) ?_ (by first | omega | (dsimp only; omega))
      exact ⟨by omega, ⟨_, hbs2, by simp [hcus], hfin⟩, hch.trans hS (fun x h _ => h) (fun x h _ => h)⟩
    ·
      refine TL.load pl5 rfl (hci) rfl ?_
      have hS : (fun w2 => Ch [g] w' w2) _ := hS
      refine TL.done ⟨hS, ?_⟩
      refine TH.one (i := 7) (by kernel_rfl) rfl rfl ?_
      refine TL.load pl5 rfl (hcj) rfl ?_
      have hS : (fun w2 => Ch [g] w' w2) _ := hS
      refine TL.done ⟨hS, ?_⟩
      refine TH.take (i := 12) rfl rfl rfl rfl rfl (by kernel_rfl) (by kernel_rfl) (by kernel_rfl) hS (fun w2 hw2 => TL.indexAddr (i) sl37 rfl rfl (by first | rfl | omega) (by omega) rfl (TL.done ⟨rfl, rfl⟩)) ?_
      refine TH.one (i := 13) (by kernel_rfl) rfl rfl ?_
      refine TL.store sz5 rfl rfl rfl (hcu.ch0 (Ch.drew [] _)) (by omega) (by simp [Value.cells, Value.oneCell']) (by rcases hfr with h | h; exact .inl h; exact .inr (fun j h1 h2 h3 => by omega)) (fun ws1 hbs1 hcs1 hzs1 => ?_)
      replace hbs1 : Has ws1 g (cu.setIfInBounds i (u8 (l.getD (l.length - 1 - i) 0))) tb fr := by rw [Nat.zero_add, Nat.mul_one] at hbs1; exact hbs1.setOne rfl (by omega)
      have hS : (fun w2 => Ch [g] w' w2) _ := Ch.trans hS hcs1 (fun x h _ => h) (fun x h _ => h)
      refine TL.done ⟨hS, ?_⟩
      refine TH.take (i := 14) rfl rfl rfl rfl rfl (by kernel_rfl) (by kernel_rfl) (by kernel_rfl) hS (fun w2 hw2 => TL.indexAddr (l.length - 1 - i) sl37 rfl rfl (by first | rfl | omega) (by omega) rfl (TL.done ⟨rfl, rfl⟩)) ?_
      refine TH.one (i := 15) (by kernel_rfl) rfl rfl ?_
      refine TL.store sz5 rfl rfl rfl hbs1 (by simp; omega) (by simp [Value.cells, Value.oneCell']) (by rcases hfr with h | h; exact .inl h; exact .inr (fun j h1 h2 h3 => by omega)) (fun ws2 hbs2 hcs2 hzs2 => ?_)
      replace hbs2 : Has ws2 g ((cu.setIfInBounds i (u8 (l.getD (l.length - 1 - i) 0))).setIfInBounds (l.length - 1 - i) (u8 (l.getD i 0))) tb fr := by rw [Nat.zero_add, Nat.mul_one] at hbs2; exact hbs2.setOne rfl (by simp; omega)
      have hS : (fun w2 => Ch [g] w' w2) _ := Ch.trans hS hcs2 (fun x h _ => h) (fun x h _ => h)
      refine TL.done ⟨hS, ?_⟩
      refine TH.done (by kernel_rfl) ?_
      refine Blk.go ?_
      refine Thn.go ?_
      refine TC.region ?_
      refine TL.move rfl rfl ?_
      refine TL.add_i64 rfl rfl (by omega) (by omega) rfl ?_
      refine TL.move rfl rfl ?_
      refine TL.sub_i64 rfl rfl (by omega) (by omega) rfl ?_
      rw [show (l.length : Int) - 1 - (i : Int) - 1 = (l.length : Int) - 1 - ((i + 1 : Nat) : Int) by omega]
      refine TL.assign rfl rfl ?_
      refine TL.assign rfl rfl ?_
      refine TL.done ?_
      refine Lp.go (i + 1) (by repeat (first | exact trivial | refine ⟨rfl, ?_⟩)) ?_ (by first | omega | (dsimp only; omega))
      exact ⟨by omega, ⟨_, hbs2, by simp [hcus], hfin⟩, hch.trans hS (fun x h _ => h) (fun x h _ => h)⟩
  ·
    rw [rev_all (by omega)] at hcut
    refine TC.exit ?_
    refine Thn.exit ?_
    refine Lp.exit ?_
    refine Blk.hit ?_
    refine Ends.normal [] rfl rfl ?_
    exact ⟨⟨cu, hcu, hcus, hcut⟩, hch⟩

