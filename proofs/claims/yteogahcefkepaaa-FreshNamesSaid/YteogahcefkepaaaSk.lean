/-
  A row kept by links at several heights: its nodes, their links, one more.
-/
import Derived.Test.YteogahcefkepaaaF6
namespace Go.Proofs.Yteogahcefkepaaa
open Go.Lane
structure Nd where
  p : Nat
  m : Nat
  h : Nat
  x : En.Entry
def ptrO (o : Option Nd) : Value := .pointer (o.map fun n => ⟨n.p, 0, none⟩)
/-- The first that is higher than 'k'. -/
def nxt (V : List Nd) (k : Nat) : Option Nd := V.find? fun n => decide (k < n.h)
def arr (n : Nd) (V : List Nd) : List Value := (List.range n.h).map fun k => ptrO (nxt V k)
theorem arr_len (n : Nd) (V : List Nd) : (arr n V).length = n.h := by simp [arr]
theorem arr_at {n : Nd} {V : List Nd} {k : Nat} (h : k < n.h) : (arr n V)[k]? = some (ptrO (nxt V k)) := by
  rw [arr, List.getElem?_map, List.getElem?_range h]; rfl
def Node (w : World) (n : Nd) : Prop := Has w n.p (cl n.x ++ [Value.slice (some ⟨n.m, 0, none⟩) n.h n.h]).toArray 56 (0, 0)
/-- The links of nodes, behind which others stand. -/
def LinksIn (w : World) : List Nd → List Nd → Prop
  | [], _ => True
  | n :: V, T => Has w n.m (arr n (V ++ T)).toArray 49 (0, 0) ∧ LinksIn w V T
theorem LinksIn.at {w : World} {T : List Nd} : ∀ {U : List Nd} {n : Nd} {V : List Nd}, LinksIn w (U ++ n :: V) T → Has w n.m (arr n (V ++ T)).toArray 49 (0, 0)
  | [], _, _, h => h.1
  | _ :: _, _, _, h => LinksIn.at h.2
theorem LinksIn.of {w : World} {T : List Nd} : ∀ {L : List Nd}, (∀ U n V, L = U ++ n :: V → Has w n.m (arr n (V ++ T)).toArray 49 (0, 0)) → LinksIn w L T
  | [], _ => trivial
  | n :: V, h => ⟨h [] n V rfl, LinksIn.of (fun U m W e => h (n :: U) m W (by rw [e]; rfl))⟩
theorem LinksIn.ch {w w' : World} {S : List Nat} {T : List Nd} (hc : Ch S w w') : ∀ {L : List Nd}, LinksIn w L T → (∀ n ∈ L, n.m ∉ S) → LinksIn w' L T
  | [], _, _ => trivial
  | n :: _, h, hS => ⟨h.1.ch hc (hS n (by simp)), LinksIn.ch hc h.2 (fun m hm => hS m (by simp [hm]))⟩
theorem LinksIn.app {w : World} {T : List Nd} : ∀ {A B : List Nd}, LinksIn w (A ++ B) T ↔ LinksIn w A (B ++ T) ∧ LinksIn w B T
  | [], B => by simp [LinksIn]
  | n :: A, B => by
    have := LinksIn.app (w := w) (T := T) (A := A) (B := B)
    simp only [List.cons_append, LinksIn, List.append_assoc, this, and_assoc]
def feet (L : List Nd) : List Nat := L.flatMap fun n => [n.p, n.m]
theorem feet_p {L : List Nd} {n : Nd} (h : n ∈ L) : n.p ∈ feet L := List.mem_flatMap.2 ⟨n, h, by simp⟩
theorem feet_m {L : List Nd} {n : Nd} (h : n ∈ L) : n.m ∈ feet L := List.mem_flatMap.2 ⟨n, h, by simp⟩
theorem feet_app (A B : List Nd) : feet (A ++ B) = feet A ++ feet B := by simp [feet]
structure Sk (w : World) (Q : Nat) (hd : Nd) (N : List Nd) : Prop where
  row : ∃ d : UInt32, Has w Q #[.pointer (some ⟨hd.p, 0, none⟩), .int .i64 (N.length : Int), u32 d] 52 (0, 0)
  nodes : ∀ n ∈ hd :: N, Node w n
  links : LinksIn w (hd :: N) []
  hts : ∀ n ∈ hd :: N, 1 ≤ n.h ∧ n.h ≤ 8
  hdh : hd.h = 8
  apart : (Q :: feet (hd :: N)).Nodup
theorem Sk.ch {w w' : World} {S : List Nat} {Q : Nat} {hd : Nd} {N : List Nd} (h : Sk w Q hd N) (hc : Ch S w w') (hS : ∀ b ∈ Q :: feet (hd :: N), b ∉ S) : Sk w' Q hd N := by
  obtain ⟨d, hd'⟩ := h.row
  exact ⟨⟨d, hd'.ch hc (hS Q (by simp))⟩, fun n hn => (show Has w n.p _ 56 (0, 0) from h.nodes n hn).ch hc (hS _ (List.mem_cons_of_mem _ (feet_p hn))), h.links.ch hc (fun n hn => hS _ (List.mem_cons_of_mem _ (feet_m hn))), h.hts, h.hdh, h.apart⟩
theorem Sk.ch0 {w w' : World} {Q : Nat} {hd : Nd} {N : List Nd} (h : Sk w Q hd N) (hc : Ch [] w w') : Sk w' Q hd N := h.ch hc (by simp)
theorem Sk.lt {w : World} {Q : Nat} {hd : Nd} {N : List Nd} (h : Sk w Q hd N) : ∀ b ∈ Q :: feet (hd :: N), b < w.heap.size := fun b hb => by
  rcases List.mem_cons.1 hb with e | e
  · obtain ⟨d, h'⟩ := h.row
    rw [e]; exact h'.lt
  · obtain ⟨n, hn, hb⟩ := List.mem_flatMap.1 e
    obtain ⟨U, V, e2⟩ := List.append_of_mem hn
    have hl := h.links
    rw [e2] at hl
    simp only [List.mem_cons, List.not_mem_nil, or_false] at hb
    rcases hb with e3 | e3
    · rw [e3]; exact (show Has w n.p _ 56 (0, 0) from h.nodes n hn).lt
    · rw [e3]; exact hl.at.lt
/-! ### One more node -/
/-- The same node, only so high. -/
def cut (n : Nd) (k : Nat) : Nd := { n with h := k }
theorem nxt_app (A B : List Nd) (c : Nat) : nxt (A ++ B) c = (nxt A c).or (nxt B c) := by rw [nxt, nxt, nxt, List.find?_append]
theorem nxt_cons (n : Nd) (B : List Nd) (c : Nat) : nxt (n :: B) c = if c < n.h then some n else nxt B c := by
  rw [nxt, List.find?_cons]
  by_cases h : c < n.h
  · simp [h]
  · simp [h, nxt]
theorem nxt_none {V : List Nd} {c : Nat} (h : ∀ v ∈ V, ¬ c < v.h) : nxt V c = none := List.find?_eq_none.2 (fun v hv => by simpa using h v hv)
theorem nxt_some {V : List Nd} {c : Nat} {v : Nd} (hv : v ∈ V) (h : c < v.h) : ∃ j, nxt V c = some j := by
  rcases hn : nxt V c with _ | j
  · exact absurd h (by simpa using List.find?_eq_none.1 hn v hv)
  · exact ⟨j, rfl⟩
theorem nxt_cut {P B : List Nd} {nw : Nd} {k c : Nat} (h : c = k → ∃ v ∈ P, c < v.h) : ptrO (nxt (P ++ cut nw k :: B) c) = ptrO (nxt (P ++ cut nw (k + 1) :: B) c) := by
  rw [nxt_app, nxt_app]
  by_cases hc : c = k
  · obtain ⟨v, hv, hh⟩ := h hc
    obtain ⟨j, hj⟩ := nxt_some hv hh
    rw [hj]; rfl
  · cases nxt P c with
    | some j => rfl
    | none =>
      rw [nxt_cons, nxt_cons]
      by_cases h2 : c < k
      · rw [if_pos (show c < (cut nw k).h from h2), if_pos (show c < (cut nw (k + 1)).h from Nat.lt_succ_of_lt h2)]; rfl
      · rw [if_neg (show ¬ c < (cut nw k).h from h2), if_neg (show ¬ c < (cut nw (k + 1)).h from fun h3 => by have : c < k + 1 := h3; omega)]
theorem cut_zero {P B : List Nd} {nw : Nd} {c : Nat} : nxt (P ++ cut nw 0 :: B) c = nxt (P ++ B) c := by
  rw [nxt_app, nxt_app, nxt_cons, if_neg (by simp [cut])]
/-- The last that is higher than 'k'. -/
def Last (A : List Nd) (k : Nat) (n : Nd) : Prop := ∃ U V, A = U ++ n :: V ∧ k < n.h ∧ ∀ v ∈ V, ¬ k < v.h
theorem arr_ext {n : Nd} {V W : List Nd} (h : ∀ c, c < n.h → ptrO (nxt V c) = ptrO (nxt W c)) : arr n V = arr n W :=
  List.map_congr_left (fun c hc => h c (List.mem_range.1 hc))
theorem LinksIn.start {w : World} {A B : List Nd} {nw : Nd} (h : LinksIn w A B) : LinksIn w A (cut nw 0 :: B) := LinksIn.of (fun U n V e => by
  subst e
  rw [arr_ext (W := V ++ B) (fun c _ => by rw [cut_zero])]
  exact h.at)
/-- One link more leads to the new node. -/
theorem LinksIn.step {w w' : World} {U V B : List Nd} {n nw : Nd} {k : Nat} (h : LinksIn w (U ++ n :: V) (cut nw k :: B)) (hk : k < n.h) (hV : ∀ v ∈ V, ¬ k < v.h)
    (hb : Has w' n.m ((arr n (V ++ cut nw k :: B)).toArray.setIfInBounds k (.pointer (some ⟨nw.p, 0, none⟩))) 49 (0, 0)) (hc : Ch [n.m] w w') (hm : ∀ u ∈ U ++ V, u.m ≠ n.m) : LinksIn w' (U ++ n :: V) (cut nw (k + 1) :: B) := by
  have hn : Has w' n.m (arr n (V ++ cut nw (k + 1) :: B)).toArray 49 (0, 0) := by
    have : (arr n (V ++ cut nw k :: B)).toArray.setIfInBounds k (.pointer (some ⟨nw.p, 0, none⟩)) = (arr n (V ++ cut nw (k + 1) :: B)).toArray := by
      apply Array.toList_inj.1
      rw [Array.toList_setIfInBounds]
      refine List.ext_getElem? (fun c => ?_)
      show ((arr n (V ++ cut nw k :: B)).set k _)[c]? = (arr n (V ++ cut nw (k + 1) :: B))[c]?
      rw [List.getElem?_set]
      by_cases hck : k = c
      · subst hck
        rw [if_pos rfl, if_pos (by rw [arr_len]; exact hk), arr_at hk, nxt_app, nxt_none hV, nxt_cons, if_pos (show k < (cut nw (k + 1)).h from Nat.lt_succ_self k)]
        rfl
      · rw [if_neg hck]
        by_cases hcn : c < n.h
        · rw [arr_at hcn, arr_at hcn, nxt_cut (fun e => absurd e.symm hck)]
        · rw [List.getElem?_eq_none (by rw [arr_len]; omega), List.getElem?_eq_none (by rw [arr_len]; omega)]
    rw [← this]; exact hb
  refine LinksIn.of (fun U' q V' e => ?_)
  have hq := h
  rw [e] at hq
  have hq := hq.at
  -- where stands the node?
  rcases List.append_eq_append_iff.1 e with ⟨a', h1, h2⟩ | ⟨c', h1, h2⟩
  · -- U' = U ++ a', n :: V = a' ++ q :: V'
    cases a' with
    | nil =>
      simp only [List.nil_append, List.cons.injEq] at h2
      obtain ⟨rfl, rfl⟩ := h2
      exact hn
    | cons y a'' =>
      simp only [List.cons_append, List.cons.injEq] at h2
      obtain ⟨rfl, rfl⟩ := h2
      have hqV : q ∈ a'' ++ q :: V' := by simp
      rw [arr_ext (W := V' ++ cut nw k :: B) (fun c hc => (nxt_cut (fun e => by have := hV q hqV; omega)).symm)]
      exact hq.ch hc (by simpa using hm q (by simp))
  · -- U = U' ++ c', q :: V' = c' ++ n :: V
    cases c' with
    | nil =>
      simp only [List.nil_append, List.cons.injEq] at h2
      obtain ⟨rfl, rfl⟩ := h2
      exact hn
    | cons y c'' =>
      simp only [List.cons_append, List.cons.injEq] at h2
      obtain ⟨rfl, rfl⟩ := h2
      rw [arr_ext (W := (c'' ++ n :: V) ++ cut nw k :: B) (fun c _ => (nxt_cut (fun e => ⟨n, by simp, by omega⟩)).symm)]
      exact hq.ch hc (by simpa using hm q (by rw [h1]; simp))
end Go.Proofs.Yteogahcefkepaaa
