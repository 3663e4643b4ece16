/-
  The lane, part F: from a row's reading of its arguments to the lane's words.
  Generic in the program.
-/
import Derived.Test.YtkgckmdhlokjmaaDoorLaneE
import Derived.ProofKit
import Derived.OpenShut
import Derived.ShutString
import Derived.ChangeOld
namespace Go.Lane
open Go.ChangeShapes Go.WideShapes Go.ChangeAt Go.RowKit

theorem u8_of {a : Int} (h : (Lit.int .u8 a).wf = true) : ∃ n : UInt8, a = (n.toNat : Int) := by
  have := bounds_u8 h
  exact ⟨UInt8.ofNat a.toNat, by rw [UInt8.toNat_ofNat']; omega⟩
theorem u32_of {a : Int} (h : (Lit.int .u32 a).wf = true) : ∃ n : UInt32, a = (n.toNat : Int) := by
  have := bounds_u32 h
  exact ⟨UInt32.ofNat a.toNat, by rw [UInt32.toNat_ofNat']; omega⟩
theorem u64_of {a : Int} (h : (Lit.int .u64 a).wf = true) : ∃ n : UInt64, a = (n.toNat : Int) := by
  have := bounds_u64 h
  exact ⟨UInt64.ofNat a.toNat, by rw [UInt64.toNat_ofNat']; omega⟩
theorem str_of' (s : ByteArray) (h : s.size ≤ maxLen) : ∃ l : List UInt8, Value.string s = str l ∧ l.length ≤ maxLen := ⟨s.data.toList, by cases s; rfl, by simpa using h⟩

theorem str_in {s : ByteArray} (h : s.size ≤ maxLen) : ∃ l : List UInt8, s = ⟨l.toArray⟩ ∧ l.length ≤ maxLen := ⟨s.data.toList, by cases s; rfl, by simpa using h⟩

theorem Has.ofCell {w : World} {a : Addr} {v : Value} (h : w.cell? a = some v) : ∃ cur t fr, Has w a.block cur t fr ∧ a.spot = none ∧ cur[a.off]? = some v := by
  unfold World.cell? at h
  split at h
  · rename_i c e f hb
    refine ⟨c, e, f, hb, ?_, ?_⟩
    · cases hs : a.spot with
      | none => rfl
      | some s => simp [hs] at h
    · cases hs : a.spot with
      | none => simpa [hs] using h
      | some s => simp [hs] at h
  · cases h

theorem Rd.ofCells {w : World} {a : Addr} {len cap sz : Nat} (vs : List Value) (hl : len ≤ cap) (hm : cap ≤ maxLen) (hsz : 0 < sz) (hv : vs.length = cap * sz) (h : ∀ i, i < vs.length → w.cell? (a.add i) = vs[i]?) :
    Rd w (.slice (some a) len cap) sz len (vs.take (len * sz)) := by
  by_cases h0 : cap = 0
  · subst h0
    have : len = 0 := by omega
    subst this
    exact .inl ⟨⟨_, rfl⟩, rfl, by simp⟩
  · have hpos : 0 < vs.length := by rw [hv]; exact Nat.mul_pos (by omega) hsz
    have h1 := h 0 hpos
    rw [show a.add 0 = a from by simp [Addr.add], List.getElem?_eq_getElem hpos] at h1
    obtain ⟨cur, t, fr, hh, hs, hc⟩ := Has.ofCell h1
    obtain ⟨b, off, spot⟩ := a
    simp only at hs hh hc
    subst hs
    have hcell : ∀ i, i < vs.length → cur[off + i]? = vs[i]? := fun i hi => by
      have := h i hi
      rw [Addr.add_lit, hh.cell] at this
      exact this
    have hfit : off + cap * sz ≤ cur.size := by
      have h2 := hcell (vs.length - 1) (by omega)
      rw [List.getElem?_eq_getElem (by omega : vs.length - 1 < vs.length)] at h2
      have := (Array.getElem?_eq_some_iff.1 h2).1
      omega
    refine .inr ⟨b, off, cap, cur, t, fr, rfl, hh, hl, hm, hfit, ?_⟩
    have hle := Nat.mul_le_mul_right sz hl
    apply List.ext_getElem?
    intro i
    rw [List.getElem?_take, List.getElem?_take]
    by_cases hi : i < len * sz
    · rw [if_pos hi, if_pos hi, List.getElem?_drop, ← hcell i (by omega), Array.getElem?_toList]
    · rw [if_neg hi, if_neg hi]

section
variable {H : Type} {enc : TypeId × Value → H} {P : Program} {w : World} {held : Bool}

/-- A slice of bytes that came in is read. -/
theorem bytes_of {t e : TypeId} {v : Value} {d : DataW H} {ps : List MemPlace} (ht : P.underlying t = some (.slice e)) (he : P.underlying e = some (.int .u8)) (hc : P.cellsOf e = 1) {r : Reach} {b0 : Nat} (hval : Value.okWide P w r b0 t v)
    (hd : DataW.Trod enc P w 0 (fun _ => true) held t v d ps) : ∃ l : List UInt8, Rd w v 1 l.length (l.map u8) := by
  obtain ⟨ao, len, cap, rfl⟩ := okWide_slice ht hval
  obtain ⟨fuel, hf⟩ := hd
  rcases open_ints ht he hc hf with ⟨hcs, _⟩ | ⟨x, l, c, zs, hcs, _, hl, hm, hz, _, hcell, hwz⟩
  · simp [Value.cells] at hcs
    obtain ⟨rfl, rfl, rfl⟩ := hcs
    exact ⟨[], Rd.nil w 1⟩
  · simp [Value.cells] at hcs
    obtain ⟨rfl, rfl, rfl⟩ := hcs
    have hz' : zs.length = cap := by simpa using hz
    have key := Rd.ofCells (w := w) (a := x) (len := len) (cap := cap) (sz := 1) (zs.map (Value.int .u8)) hl hm (by omega) (by simp [hz']) (fun i hi => by
      rw [List.length_map] at hi
      rw [hcell i hi, List.getElem?_map, List.getElem?_eq_getElem hi, List.getD_eq_getElem?_getD, List.getElem?_eq_getElem hi]; rfl)
    refine ⟨(zs.take len).map fun z => UInt8.ofNat z.toNat, ?_⟩
    refine Rd.bytes _ key (by simp [hz']; omega) ?_
    rw [Nat.mul_one, ← List.map_take, List.map_map]
    apply List.map_congr_left
    intro z hzm
    have hb := bounds_u8 (hwz z (List.mem_of_mem_take hzm))
    show Value.int .u8 z = Value.int .u8 (((UInt8.ofNat z.toNat).toNat : Nat) : Int)
    rw [UInt8.toNat_ofNat']
    congr 1
    omega
end

theorem law_of {P : Program} {f : FuncId} {args : Array Value} {w : World} (h : Rets P f args w (fun v w' => v = .bool true ∧ Ch [] w w')) :
    Calls P f args w (fun e w' => e = .returned (.bool true) ∧ Below w.heap.size w w') :=
  Calls.mono h fun _ _ ⟨v, he, hv, hc⟩ => ⟨by rw [he, hv], hc.below⟩
end Go.Lane
