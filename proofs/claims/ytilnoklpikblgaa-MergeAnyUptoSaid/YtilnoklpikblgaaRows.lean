/-
  No cell of these rows narrows 'for every input' (looked for: loops, veiled, ifaces, maps, wideKeys, modest, calm, conditions, laid).
  DERIVED. THE GIVEN ROWS OF THIS SEAT. 7 by the template 'for every input the law returns true; each argument reads behind the call as it read before'; 0 by the template 'total and deterministic' (their statements: YtilnoklpikblgaaTotals.lean).
  GIVEN WITH THE SEED: the statements are not yours to turn. If you find one false, say at which input.
  Laid BY PROGRAM, IN A SANDBOX (cutbox-rows.mjs): the forced cells as the released guide's own fill.sh prints them over the translation e229895751de2d0c… (all of the seat's roots in one cut). By AI agents, Wed Nov 11 2026. No macro, syntax, notation, axiom, sorry.
-/
import Derived.Test.YtilnoklpikblgaaChecked
import GoSem.Claim
import GoSem.ClaimJoined
import GoSem.ClaimMapViews
import Derived.JoinedTies
import Derived.KernelRfl
namespace Go.Proofs.Ytilnoklpikblgaa
/- THE CELL 'sum', in the pinned program and in every row, IS THE sha256 OF THE DUMP (.gsa) THAT YtilnoklpikblgaaProg.lean LOADS. Nothing in Lean hashes anything: it is a label: what it is worth is what the hold of that sum in a sandbox is worth. -/
noncomputable def Try.pinned : Pinned := { name := "ytilnoklpikblgaa", sum := "e229895751de2d0cde00546a3afb56d4d55099763c6dd2afdc71d1150214ff59", checked := Try.checked }
namespace Rows
def none {H : Type} : Left H := { results := [], args := [] }

/-- 'docketlaw11.MergeAny': WHATEVER THE INPUT: true; the input reads as it did. -/
def mergeAnySpec : ChangeSpec := { name := "mergeAny", fn := fun _ => fun
  | [d] => { results := [.lit (.bool true)], args := [d] }
  | _ => none }
def mergeAnyRow : OpenClaim := { program := "ytilnoklpikblgaa", sum := "e229895751de2d0cde00546a3afb56d4d55099763c6dd2afdc71d1150214ff59", func := "docket/docketlaw11.MergeAny", spec := "mergeAny", inPlace := ["internal/bytealg.abigen_runtime_cmpstring"], unfollowed := true, recurses := true, apart := false }
def MergeAnySaid : Prop := mergeAnyRow.holds Try.pinned (OpenSpec.ofChange mergeAnySpec)

/-- ITS FALSE NEIGHBOUR: 'it returns false'. Refute it at one input. -/
def mergeAnyWrong : ChangeSpec := { name := "mergeAny", fn := fun _ => fun
  | [d] => { results := [.lit (.bool false)], args := [d] }
  | _ => none }
def MergeAnyWrongFalsely : Prop := mergeAnyRow.holds Try.pinned (OpenSpec.ofChange mergeAnyWrong)

/-- 'docketlaw11.MergeRows': WHATEVER THE INPUT: true; the input reads as it did. -/
def mergeRowsSpec : ChangeSpec := { name := "mergeRows", fn := fun _ => fun
  | [d1, d2] => { results := [.lit (.bool true)], args := [d1, d2] }
  | _ => none }
def mergeRowsRow : OpenClaim := { program := "ytilnoklpikblgaa", sum := "e229895751de2d0cde00546a3afb56d4d55099763c6dd2afdc71d1150214ff59", func := "docket/docketlaw11.MergeRows", spec := "mergeRows", inPlace := ["internal/bytealg.abigen_runtime_cmpstring"], unfollowed := true, recurses := true, apart := false }
def MergeRowsSaid : Prop := mergeRowsRow.holds Try.pinned (OpenSpec.ofChange mergeRowsSpec)

/-- ITS FALSE NEIGHBOUR: 'it returns false'. Refute it at one input. -/
def mergeRowsWrong : ChangeSpec := { name := "mergeRows", fn := fun _ => fun
  | [d1, d2] => { results := [.lit (.bool false)], args := [d1, d2] }
  | _ => none }
def MergeRowsWrongFalsely : Prop := mergeRowsRow.holds Try.pinned (OpenSpec.ofChange mergeRowsWrong)

/-- 'docketlaw11.MergeTwice': WHATEVER THE INPUT: true; the input reads as it did. -/
def mergeTwiceSpec : ChangeSpec := { name := "mergeTwice", fn := fun _ => fun
  | [d1, d2, d3] => { results := [.lit (.bool true)], args := [d1, d2, d3] }
  | _ => none }
def mergeTwiceRow : OpenClaim := { program := "ytilnoklpikblgaa", sum := "e229895751de2d0cde00546a3afb56d4d55099763c6dd2afdc71d1150214ff59", func := "docket/docketlaw11.MergeTwice", spec := "mergeTwice", inPlace := ["internal/bytealg.abigen_runtime_cmpstring"], unfollowed := true, recurses := true, apart := false }
def MergeTwiceSaid : Prop := mergeTwiceRow.holds Try.pinned (OpenSpec.ofChange mergeTwiceSpec)

/-- ITS FALSE NEIGHBOUR: 'it returns false'. Refute it at one input. -/
def mergeTwiceWrong : ChangeSpec := { name := "mergeTwice", fn := fun _ => fun
  | [d1, d2, d3] => { results := [.lit (.bool false)], args := [d1, d2, d3] }
  | _ => none }
def MergeTwiceWrongFalsely : Prop := mergeTwiceRow.holds Try.pinned (OpenSpec.ofChange mergeTwiceWrong)

/-- 'docketlaw11.MergeThin': WHATEVER THE INPUT: true; the input reads as it did. -/
def mergeThinSpec : ChangeSpec := { name := "mergeThin", fn := fun _ => fun
  | [d1, d2, d3, d4] => { results := [.lit (.bool true)], args := [d1, d2, d3, d4] }
  | _ => none }
def mergeThinRow : OpenClaim := { program := "ytilnoklpikblgaa", sum := "e229895751de2d0cde00546a3afb56d4d55099763c6dd2afdc71d1150214ff59", func := "docket/docketlaw11.MergeThin", spec := "mergeThin", inPlace := ["internal/bytealg.abigen_runtime_cmpstring"], unfollowed := true, recurses := true, apart := false }
def MergeThinSaid : Prop := mergeThinRow.holds Try.pinned (OpenSpec.ofChange mergeThinSpec)

/-- ITS FALSE NEIGHBOUR: 'it returns false'. Refute it at one input. -/
def mergeThinWrong : ChangeSpec := { name := "mergeThin", fn := fun _ => fun
  | [d1, d2, d3, d4] => { results := [.lit (.bool false)], args := [d1, d2, d3, d4] }
  | _ => none }
def MergeThinWrongFalsely : Prop := mergeThinRow.holds Try.pinned (OpenSpec.ofChange mergeThinWrong)

/-- 'docketlaw11.MergeCursor': WHATEVER THE INPUT: true; the input reads as it did. -/
def mergeCursorSpec : ChangeSpec := { name := "mergeCursor", fn := fun _ => fun
  | [d1, d2, d3] => { results := [.lit (.bool true)], args := [d1, d2, d3] }
  | _ => none }
def mergeCursorRow : OpenClaim := { program := "ytilnoklpikblgaa", sum := "e229895751de2d0cde00546a3afb56d4d55099763c6dd2afdc71d1150214ff59", func := "docket/docketlaw11.MergeCursor", spec := "mergeCursor", inPlace := ["internal/bytealg.abigen_runtime_cmpstring"], unfollowed := true, recurses := true, apart := false }
def MergeCursorSaid : Prop := mergeCursorRow.holds Try.pinned (OpenSpec.ofChange mergeCursorSpec)

/-- ITS FALSE NEIGHBOUR: 'it returns false'. Refute it at one input. -/
def mergeCursorWrong : ChangeSpec := { name := "mergeCursor", fn := fun _ => fun
  | [d1, d2, d3] => { results := [.lit (.bool false)], args := [d1, d2, d3] }
  | _ => none }
def MergeCursorWrongFalsely : Prop := mergeCursorRow.holds Try.pinned (OpenSpec.ofChange mergeCursorWrong)

/-- 'docketlaw11.MergeNames': WHATEVER THE INPUT: true; the input reads as it did. -/
def mergeNamesSpec : ChangeSpec := { name := "mergeNames", fn := fun _ => fun
  | [] => { results := [.lit (.bool true)], args := [] }
  | _ => none }
def mergeNamesRow : OpenClaim := { program := "ytilnoklpikblgaa", sum := "e229895751de2d0cde00546a3afb56d4d55099763c6dd2afdc71d1150214ff59", func := "docket/docketlaw11.MergeNames", spec := "mergeNames", inPlace := ["internal/bytealg.abigen_runtime_cmpstring"], unfollowed := true, recurses := true, apart := false }
def MergeNamesSaid : Prop := mergeNamesRow.holds Try.pinned (OpenSpec.ofChange mergeNamesSpec)

/-- ITS FALSE NEIGHBOUR: 'it returns false'. Refute it at one input. -/
def mergeNamesWrong : ChangeSpec := { name := "mergeNames", fn := fun _ => fun
  | [] => { results := [.lit (.bool false)], args := [] }
  | _ => none }
def MergeNamesWrongFalsely : Prop := mergeNamesRow.holds Try.pinned (OpenSpec.ofChange mergeNamesWrong)

/-- 'docketlaw11.MergeThins': WHATEVER THE INPUT: true; the input reads as it did. -/
def mergeThinsSpec : ChangeSpec := { name := "mergeThins", fn := fun _ => fun
  | [d1, d2, d3, d4, d5] => { results := [.lit (.bool true)], args := [d1, d2, d3, d4, d5] }
  | _ => none }
def mergeThinsRow : OpenClaim := { program := "ytilnoklpikblgaa", sum := "e229895751de2d0cde00546a3afb56d4d55099763c6dd2afdc71d1150214ff59", func := "docket/docketlaw11.MergeThins", spec := "mergeThins", inPlace := ["internal/bytealg.abigen_runtime_cmpstring"], unfollowed := true, recurses := true, apart := false }
def MergeThinsSaid : Prop := mergeThinsRow.holds Try.pinned (OpenSpec.ofChange mergeThinsSpec)

/-- ITS FALSE NEIGHBOUR: 'it returns false'. Refute it at one input. -/
def mergeThinsWrong : ChangeSpec := { name := "mergeThins", fn := fun _ => fun
  | [d1, d2, d3, d4, d5] => { results := [.lit (.bool false)], args := [d1, d2, d3, d4, d5] }
  | _ => none }
def MergeThinsWrongFalsely : Prop := mergeThinsRow.holds Try.pinned (OpenSpec.ofChange mergeThinsWrong)

/- THE SECOND FORM. 'bulk': how many values and letters a reading holds, each counted each time it is reached (what is shared counts as often as it is met; a slice's spare places count too). A statement '..UptoSaid' is the law's where the arguments, and the package variables that the reading takes, are together of bulk at most 1048576: NARROWER than '..Said'. Prove '..Said' where nothing that the law and all that it calls make is longer than what came in: it says more and counts as full. Else prove '..UptoSaid'. A law counts once. -/
mutual
def uptoBulk {H : Type} : DataW H → Nat
  | .lit (.string bytes) => bytes.length + 1
  | .lit _ => 1
  | .nil => 1
  | .ptr d => uptoBulk d + 1
  | .slice elems spare => uptoBulkAll elems + uptoBulkAll spare + 1
  | .agg parts => uptoBulkAll parts + 1
  | .iface _ d => uptoBulk d + 1
  | .map entries => uptoBulkEntries entries + 1
  | .held _ => 1
def uptoBulkAll {H : Type} : List (DataW H) → Nat
  | [] => 0
  | d :: r => uptoBulk d + uptoBulkAll r
def uptoBulkEntries {H : Type} : List (Lit × DataW H) → Nat
  | [] => 0
  | x :: r => uptoBulkEntry x + uptoBulkEntries r
def uptoBulkEntry {H : Type} : Lit × DataW H → Nat
  | (.string bytes, d) => bytes.length + uptoBulk d + 1
  | (_, d) => uptoBulk d + 1
 end
def uptoSmall : (H : Type) → List (DataW H) → Bool := fun _ ds => decide (uptoBulkAll ds ≤ 1048576)
def OpenSpec.upto (s : _root_.Go.ChangeSpec) : _root_.Go.OpenSpec := { _root_.Go.OpenSpec.ofChange s with cond := some uptoSmall }

/-- 'docketlaw11.MergeAny', WHERE WHAT IT READS IS OF BULK AT MOST 1048576: true; the input reads as it did. -/
def mergeAnyUptoRow : OpenClaim := { program := "ytilnoklpikblgaa", sum := "e229895751de2d0cde00546a3afb56d4d55099763c6dd2afdc71d1150214ff59", func := "docket/docketlaw11.MergeAny", spec := "mergeAny", inPlace := ["internal/bytealg.abigen_runtime_cmpstring"], unfollowed := true, recurses := true, apart := false, narrowed := true }
def MergeAnyUptoSaid : Prop := mergeAnyUptoRow.holds Try.pinned (OpenSpec.upto mergeAnySpec)

/-- 'docketlaw11.MergeRows', WHERE WHAT IT READS IS OF BULK AT MOST 1048576: true; the input reads as it did. -/
def mergeRowsUptoRow : OpenClaim := { program := "ytilnoklpikblgaa", sum := "e229895751de2d0cde00546a3afb56d4d55099763c6dd2afdc71d1150214ff59", func := "docket/docketlaw11.MergeRows", spec := "mergeRows", inPlace := ["internal/bytealg.abigen_runtime_cmpstring"], unfollowed := true, recurses := true, apart := false, narrowed := true }
def MergeRowsUptoSaid : Prop := mergeRowsUptoRow.holds Try.pinned (OpenSpec.upto mergeRowsSpec)

/-- 'docketlaw11.MergeTwice', WHERE WHAT IT READS IS OF BULK AT MOST 1048576: true; the input reads as it did. -/
def mergeTwiceUptoRow : OpenClaim := { program := "ytilnoklpikblgaa", sum := "e229895751de2d0cde00546a3afb56d4d55099763c6dd2afdc71d1150214ff59", func := "docket/docketlaw11.MergeTwice", spec := "mergeTwice", inPlace := ["internal/bytealg.abigen_runtime_cmpstring"], unfollowed := true, recurses := true, apart := false, narrowed := true }
def MergeTwiceUptoSaid : Prop := mergeTwiceUptoRow.holds Try.pinned (OpenSpec.upto mergeTwiceSpec)

/-- 'docketlaw11.MergeThin', WHERE WHAT IT READS IS OF BULK AT MOST 1048576: true; the input reads as it did. -/
def mergeThinUptoRow : OpenClaim := { program := "ytilnoklpikblgaa", sum := "e229895751de2d0cde00546a3afb56d4d55099763c6dd2afdc71d1150214ff59", func := "docket/docketlaw11.MergeThin", spec := "mergeThin", inPlace := ["internal/bytealg.abigen_runtime_cmpstring"], unfollowed := true, recurses := true, apart := false, narrowed := true }
def MergeThinUptoSaid : Prop := mergeThinUptoRow.holds Try.pinned (OpenSpec.upto mergeThinSpec)

/-- 'docketlaw11.MergeCursor', WHERE WHAT IT READS IS OF BULK AT MOST 1048576: true; the input reads as it did. -/
def mergeCursorUptoRow : OpenClaim := { program := "ytilnoklpikblgaa", sum := "e229895751de2d0cde00546a3afb56d4d55099763c6dd2afdc71d1150214ff59", func := "docket/docketlaw11.MergeCursor", spec := "mergeCursor", inPlace := ["internal/bytealg.abigen_runtime_cmpstring"], unfollowed := true, recurses := true, apart := false, narrowed := true }
def MergeCursorUptoSaid : Prop := mergeCursorUptoRow.holds Try.pinned (OpenSpec.upto mergeCursorSpec)

/-- 'docketlaw11.MergeNames', WHERE WHAT IT READS IS OF BULK AT MOST 1048576: true; the input reads as it did. -/
def mergeNamesUptoRow : OpenClaim := { program := "ytilnoklpikblgaa", sum := "e229895751de2d0cde00546a3afb56d4d55099763c6dd2afdc71d1150214ff59", func := "docket/docketlaw11.MergeNames", spec := "mergeNames", inPlace := ["internal/bytealg.abigen_runtime_cmpstring"], unfollowed := true, recurses := true, apart := false, narrowed := true }
def MergeNamesUptoSaid : Prop := mergeNamesUptoRow.holds Try.pinned (OpenSpec.upto mergeNamesSpec)

/-- 'docketlaw11.MergeThins', WHERE WHAT IT READS IS OF BULK AT MOST 1048576: true; the input reads as it did. -/
def mergeThinsUptoRow : OpenClaim := { program := "ytilnoklpikblgaa", sum := "e229895751de2d0cde00546a3afb56d4d55099763c6dd2afdc71d1150214ff59", func := "docket/docketlaw11.MergeThins", spec := "mergeThins", inPlace := ["internal/bytealg.abigen_runtime_cmpstring"], unfollowed := true, recurses := true, apart := false, narrowed := true }
def MergeThinsUptoSaid : Prop := mergeThinsUptoRow.holds Try.pinned (OpenSpec.upto mergeThinsSpec)

end Rows
end Go.Proofs.Ytilnoklpikblgaa
