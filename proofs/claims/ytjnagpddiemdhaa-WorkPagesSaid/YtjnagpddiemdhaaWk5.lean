/-
  Lists of work: pages. No program in sight.
-/
import Derived.Test.YtjnagpddiemdhaaWk3
namespace Go.Wk
theorem for_zero {l : List Work} {u : List UInt8} {r : List (List UInt8)} {f c : Int} (h : forE l u r f c = 0) : checkE l = 0 ∧ named u ∧ ¬ 1024 < r.length ∧ ¬ (f < 0 ∨ c < 0) := by
  have hc : checkE l = 0 := by
    apply Classical.byContradiction; intro hn
    have := for_check (u := u) (r := r) (f := f) (c := c) hn; omega
  have hu : named u := by
    apply Classical.byContradiction; intro hn
    have := for_name (r := r) (f := f) (c := c) hc hn; omega
  have hr : ¬ 1024 < r.length := by
    intro hn
    have := for_many (f := f) (c := c) hc hu hn; omega
  refine ⟨hc, hu, hr, fun hn => ?_⟩
  have := for_range hc hu hr hn; omega
theorem page_step (S : List Work) (n k : Nat) : S.take (n + ((S.drop n).take k).length) = S.take n ++ (S.drop n).take k := by
  rw [List.take_add, ← List.prefix_iff_eq_take.1 (List.take_prefix k (S.drop n))]
theorem seen_at {l : List Work} {i : Nat} {u : List UInt8} {r : List (List UInt8)} (hi : i < l.length) (hs : sees (rec l i) u r) : (seen (l.take i) u r).length < (seen l u r).length ∧ rec (seen l u r) (seen (l.take i) u r).length = rec l i := by
  have e : seen l u r = (seen (l.take i) u r ++ [rec l i]) ++ seen (l.drop (i + 1)) u r := by
    rw [← seen_yes hi hs, ← seen_app, List.take_append_drop]
  rw [e]
  refine ⟨by simp, ?_⟩
  rw [rec_left (by simp), rec_last]
end Go.Wk
