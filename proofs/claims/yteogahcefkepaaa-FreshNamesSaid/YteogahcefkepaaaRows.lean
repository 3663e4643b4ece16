/-
  No cell of these rows narrows 'for every input' (looked for: loops, veiled, ifaces, maps, wideKeys, modest, calm, conditions, laid).
  DERIVED. THE GIVEN ROWS OF THIS SEAT. 6 by the template 'for every input the law returns true; each argument reads behind the call as it read before'; 0 by the template 'total and deterministic' (their statements: YteogahcefkepaaaTotals.lean).
  GIVEN WITH THE SEED: the statements are not yours to turn. If you find one false, say at which input.
  Laid BY PROGRAM, IN A SANDBOX (cutbox-rows.mjs): the forced cells as the released guide's own fill.sh prints them over the translation 55afe4975b691696… (all of the seat's roots in one cut). By AI agents, Wed Nov 11 2026. No macro, syntax, notation, axiom, sorry.
-/
import Derived.Test.YteogahcefkepaaaChecked
import GoSem.Claim
import GoSem.ClaimJoined
import GoSem.ClaimMapViews
import Derived.JoinedTies
import Derived.KernelRfl
namespace Go.Proofs.Yteogahcefkepaaa
/- THE CELL 'sum', in the pinned program and in every row, IS THE sha256 OF THE DUMP (.gsa) THAT YteogahcefkepaaaProg.lean LOADS. Nothing in Lean hashes anything: it is a label: what it is worth is what the hold of that sum in a sandbox is worth. -/
noncomputable def Try.pinned : Pinned := { name := "yteogahcefkepaaa", sum := "55afe4975b6916964b67c17ca434687e813bee11498b072792c921da5b4fb15c", checked := Try.checked }
namespace Rows
def none {H : Type} : Left H := { results := [], args := [] }

/-- 'docketlaw10.FreshRows': WHATEVER THE INPUT: true; the input reads as it did. -/
def freshRowsSpec : ChangeSpec := { name := "freshRows", fn := fun _ => fun
  | [d1, d2, d3] => { results := [.lit (.bool true)], args := [d1, d2, d3] }
  | _ => none }
def freshRowsRow : OpenClaim := { program := "yteogahcefkepaaa", sum := "55afe4975b6916964b67c17ca434687e813bee11498b072792c921da5b4fb15c", func := "docket/docketlaw10.FreshRows", spec := "freshRows", inPlace := ["internal/bytealg.abigen_runtime_cmpstring"], apart := false }
def FreshRowsSaid : Prop := freshRowsRow.holds Try.pinned (OpenSpec.ofChange freshRowsSpec)

/-- ITS FALSE NEIGHBOUR: 'it returns false'. Refute it at one input. -/
def freshRowsWrong : ChangeSpec := { name := "freshRows", fn := fun _ => fun
  | [d1, d2, d3] => { results := [.lit (.bool false)], args := [d1, d2, d3] }
  | _ => none }
def FreshRowsWrongFalsely : Prop := freshRowsRow.holds Try.pinned (OpenSpec.ofChange freshRowsWrong)

/-- 'docketlaw10.FreshLists': WHATEVER THE INPUT: true; the input reads as it did. -/
def freshListsSpec : ChangeSpec := { name := "freshLists", fn := fun _ => fun
  | [d1, d2, d3, d4] => { results := [.lit (.bool true)], args := [d1, d2, d3, d4] }
  | _ => none }
def freshListsRow : OpenClaim := { program := "yteogahcefkepaaa", sum := "55afe4975b6916964b67c17ca434687e813bee11498b072792c921da5b4fb15c", func := "docket/docketlaw10.FreshLists", spec := "freshLists", inPlace := ["internal/bytealg.abigen_runtime_cmpstring"], unfollowed := true, recurses := true, apart := false }
def FreshListsSaid : Prop := freshListsRow.holds Try.pinned (OpenSpec.ofChange freshListsSpec)

/-- ITS FALSE NEIGHBOUR: 'it returns false'. Refute it at one input. -/
def freshListsWrong : ChangeSpec := { name := "freshLists", fn := fun _ => fun
  | [d1, d2, d3, d4] => { results := [.lit (.bool false)], args := [d1, d2, d3, d4] }
  | _ => none }
def FreshListsWrongFalsely : Prop := freshListsRow.holds Try.pinned (OpenSpec.ofChange freshListsWrong)

/-- 'docketlaw10.FreshAnyhow': WHATEVER THE INPUT: true; the input reads as it did. -/
def freshAnyhowSpec : ChangeSpec := { name := "freshAnyhow", fn := fun _ => fun
  | [d] => { results := [.lit (.bool true)], args := [d] }
  | _ => none }
def freshAnyhowRow : OpenClaim := { program := "yteogahcefkepaaa", sum := "55afe4975b6916964b67c17ca434687e813bee11498b072792c921da5b4fb15c", func := "docket/docketlaw10.FreshAnyhow", spec := "freshAnyhow", inPlace := ["internal/bytealg.abigen_runtime_cmpstring"], unfollowed := true, recurses := true, apart := false }
def FreshAnyhowSaid : Prop := freshAnyhowRow.holds Try.pinned (OpenSpec.ofChange freshAnyhowSpec)

/-- ITS FALSE NEIGHBOUR: 'it returns false'. Refute it at one input. -/
def freshAnyhowWrong : ChangeSpec := { name := "freshAnyhow", fn := fun _ => fun
  | [d] => { results := [.lit (.bool false)], args := [d] }
  | _ => none }
def FreshAnyhowWrongFalsely : Prop := freshAnyhowRow.holds Try.pinned (OpenSpec.ofChange freshAnyhowWrong)

/-- 'docketlaw10.FreshNames': WHATEVER THE INPUT: true; the input reads as it did. -/
def freshNamesSpec : ChangeSpec := { name := "freshNames", fn := fun _ => fun
  | [] => { results := [.lit (.bool true)], args := [] }
  | _ => none }
def freshNamesRow : OpenClaim := { program := "yteogahcefkepaaa", sum := "55afe4975b6916964b67c17ca434687e813bee11498b072792c921da5b4fb15c", func := "docket/docketlaw10.FreshNames", spec := "freshNames", inPlace := ["internal/bytealg.abigen_runtime_cmpstring"], unfollowed := true, recurses := true, apart := false }
def FreshNamesSaid : Prop := freshNamesRow.holds Try.pinned (OpenSpec.ofChange freshNamesSpec)

/-- ITS FALSE NEIGHBOUR: 'it returns false'. Refute it at one input. -/
def freshNamesWrong : ChangeSpec := { name := "freshNames", fn := fun _ => fun
  | [] => { results := [.lit (.bool false)], args := [] }
  | _ => none }
def FreshNamesWrongFalsely : Prop := freshNamesRow.holds Try.pinned (OpenSpec.ofChange freshNamesWrong)

/-- 'docketlaw10.FreshNewest': WHATEVER THE INPUT: true; the input reads as it did. -/
def freshNewestSpec : ChangeSpec := { name := "freshNewest", fn := fun _ => fun
  | [d1, d2, d3] => { results := [.lit (.bool true)], args := [d1, d2, d3] }
  | _ => none }
def freshNewestRow : OpenClaim := { program := "yteogahcefkepaaa", sum := "55afe4975b6916964b67c17ca434687e813bee11498b072792c921da5b4fb15c", func := "docket/docketlaw10.FreshNewest", spec := "freshNewest", inPlace := ["internal/bytealg.abigen_runtime_cmpstring"], unfollowed := true, recurses := true, apart := false }
def FreshNewestSaid : Prop := freshNewestRow.holds Try.pinned (OpenSpec.ofChange freshNewestSpec)

/-- ITS FALSE NEIGHBOUR: 'it returns false'. Refute it at one input. -/
def freshNewestWrong : ChangeSpec := { name := "freshNewest", fn := fun _ => fun
  | [d1, d2, d3] => { results := [.lit (.bool false)], args := [d1, d2, d3] }
  | _ => none }
def FreshNewestWrongFalsely : Prop := freshNewestRow.holds Try.pinned (OpenSpec.ofChange freshNewestWrong)

/-- 'docketlaw10.FreshAlike': WHATEVER THE INPUT: true; the input reads as it did. -/
def freshAlikeSpec : ChangeSpec := { name := "freshAlike", fn := fun _ => fun
  | [d1, d2, d3] => { results := [.lit (.bool true)], args := [d1, d2, d3] }
  | _ => none }
def freshAlikeRow : OpenClaim := { program := "yteogahcefkepaaa", sum := "55afe4975b6916964b67c17ca434687e813bee11498b072792c921da5b4fb15c", func := "docket/docketlaw10.FreshAlike", spec := "freshAlike", inPlace := ["internal/bytealg.abigen_runtime_cmpstring"], unfollowed := true, recurses := true, apart := false }
def FreshAlikeSaid : Prop := freshAlikeRow.holds Try.pinned (OpenSpec.ofChange freshAlikeSpec)

/-- ITS FALSE NEIGHBOUR: 'it returns false'. Refute it at one input. -/
def freshAlikeWrong : ChangeSpec := { name := "freshAlike", fn := fun _ => fun
  | [d1, d2, d3] => { results := [.lit (.bool false)], args := [d1, d2, d3] }
  | _ => none }
def FreshAlikeWrongFalsely : Prop := freshAlikeRow.holds Try.pinned (OpenSpec.ofChange freshAlikeWrong)

/- THE SECOND FORM. 'bulk': how many values and letters a reading holds, each counted each time it is reached (what is shared counts as often as it is met; a slice's spare places count too). A statement '..UptoSaid' is the law's where the arguments, and the package variables that the reading takes, are together of bulk at most 1048576: NARROWER than '..Said'. Prove '..Said' where nothing that the law and all that it calls make is longer than what came in: it says more and counts as full. Else prove '..UptoSaid'. A law counts once. -/
mutual
def uptoBulk {H : Type} : DataW H → Nat
  | .lit (.string bytes) => bytes.length + 1
  | .lit _ => 1
  | .nil => 1
  | .ptr d => uptoBulk d + 1
  | .slice elems spare => uptoBulkAll elems + uptoBulkAll spare + 1
  | .agg parts => uptoBulkAll parts + 1
  | .iface _ d => uptoBulk d + 1
  | .map entries => uptoBulkEntries entries + 1
  | .held _ => 1
def uptoBulkAll {H : Type} : List (DataW H) → Nat
  | [] => 0
  | d :: r => uptoBulk d + uptoBulkAll r
def uptoBulkEntries {H : Type} : List (Lit × DataW H) → Nat
  | [] => 0
  | x :: r => uptoBulkEntry x + uptoBulkEntries r
def uptoBulkEntry {H : Type} : Lit × DataW H → Nat
  | (.string bytes, d) => bytes.length + uptoBulk d + 1
  | (_, d) => uptoBulk d + 1
 end
def uptoSmall : (H : Type) → List (DataW H) → Bool := fun _ ds => decide (uptoBulkAll ds ≤ 1048576)
def OpenSpec.upto (s : _root_.Go.ChangeSpec) : _root_.Go.OpenSpec := { _root_.Go.OpenSpec.ofChange s with cond := some uptoSmall }

/-- 'docketlaw10.FreshRows', WHERE WHAT IT READS IS OF BULK AT MOST 1048576: true; the input reads as it did. -/
def freshRowsUptoRow : OpenClaim := { program := "yteogahcefkepaaa", sum := "55afe4975b6916964b67c17ca434687e813bee11498b072792c921da5b4fb15c", func := "docket/docketlaw10.FreshRows", spec := "freshRows", inPlace := ["internal/bytealg.abigen_runtime_cmpstring"], apart := false, narrowed := true }
def FreshRowsUptoSaid : Prop := freshRowsUptoRow.holds Try.pinned (OpenSpec.upto freshRowsSpec)

/-- 'docketlaw10.FreshLists', WHERE WHAT IT READS IS OF BULK AT MOST 1048576: true; the input reads as it did. -/
def freshListsUptoRow : OpenClaim := { program := "yteogahcefkepaaa", sum := "55afe4975b6916964b67c17ca434687e813bee11498b072792c921da5b4fb15c", func := "docket/docketlaw10.FreshLists", spec := "freshLists", inPlace := ["internal/bytealg.abigen_runtime_cmpstring"], unfollowed := true, recurses := true, apart := false, narrowed := true }
def FreshListsUptoSaid : Prop := freshListsUptoRow.holds Try.pinned (OpenSpec.upto freshListsSpec)

/-- 'docketlaw10.FreshAnyhow', WHERE WHAT IT READS IS OF BULK AT MOST 1048576: true; the input reads as it did. -/
def freshAnyhowUptoRow : OpenClaim := { program := "yteogahcefkepaaa", sum := "55afe4975b6916964b67c17ca434687e813bee11498b072792c921da5b4fb15c", func := "docket/docketlaw10.FreshAnyhow", spec := "freshAnyhow", inPlace := ["internal/bytealg.abigen_runtime_cmpstring"], unfollowed := true, recurses := true, apart := false, narrowed := true }
def FreshAnyhowUptoSaid : Prop := freshAnyhowUptoRow.holds Try.pinned (OpenSpec.upto freshAnyhowSpec)

/-- 'docketlaw10.FreshNames', WHERE WHAT IT READS IS OF BULK AT MOST 1048576: true; the input reads as it did. -/
def freshNamesUptoRow : OpenClaim := { program := "yteogahcefkepaaa", sum := "55afe4975b6916964b67c17ca434687e813bee11498b072792c921da5b4fb15c", func := "docket/docketlaw10.FreshNames", spec := "freshNames", inPlace := ["internal/bytealg.abigen_runtime_cmpstring"], unfollowed := true, recurses := true, apart := false, narrowed := true }
def FreshNamesUptoSaid : Prop := freshNamesUptoRow.holds Try.pinned (OpenSpec.upto freshNamesSpec)

/-- 'docketlaw10.FreshNewest', WHERE WHAT IT READS IS OF BULK AT MOST 1048576: true; the input reads as it did. -/
def freshNewestUptoRow : OpenClaim := { program := "yteogahcefkepaaa", sum := "55afe4975b6916964b67c17ca434687e813bee11498b072792c921da5b4fb15c", func := "docket/docketlaw10.FreshNewest", spec := "freshNewest", inPlace := ["internal/bytealg.abigen_runtime_cmpstring"], unfollowed := true, recurses := true, apart := false, narrowed := true }
def FreshNewestUptoSaid : Prop := freshNewestUptoRow.holds Try.pinned (OpenSpec.upto freshNewestSpec)

/-- 'docketlaw10.FreshAlike', WHERE WHAT IT READS IS OF BULK AT MOST 1048576: true; the input reads as it did. -/
def freshAlikeUptoRow : OpenClaim := { program := "yteogahcefkepaaa", sum := "55afe4975b6916964b67c17ca434687e813bee11498b072792c921da5b4fb15c", func := "docket/docketlaw10.FreshAlike", spec := "freshAlike", inPlace := ["internal/bytealg.abigen_runtime_cmpstring"], unfollowed := true, recurses := true, apart := false, narrowed := true }
def FreshAlikeUptoSaid : Prop := freshAlikeUptoRow.holds Try.pinned (OpenSpec.upto freshAlikeSpec)

end Rows
end Go.Proofs.Yteogahcefkepaaa
