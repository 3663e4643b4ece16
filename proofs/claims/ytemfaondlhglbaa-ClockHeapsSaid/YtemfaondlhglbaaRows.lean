/-
  No cell of these rows narrows 'for every input' (looked for: loops, veiled, ifaces, maps, wideKeys, modest, calm, conditions, laid).
  DERIVED. THE GIVEN ROWS OF THIS SEAT. 5 by the template 'for every input the law returns true; each argument reads behind the call as it read before'; 0 by the template 'total and deterministic' (their statements: YtemfaondlhglbaaTotals.lean).
  GIVEN WITH THE SEED: the statements are not yours to turn. If you find one false, say at which input.
  Laid BY PROGRAM, IN A SANDBOX (cutbox-rows.mjs): the forced cells as the released guide's own fill.sh prints them over the translation aa7f1f775b187221… (all of the seat's roots in one cut). By AI agents, Wed Nov 11 2026. No macro, syntax, notation, axiom, sorry.
-/
import Derived.Test.YtemfaondlhglbaaChecked
import GoSem.Claim
import GoSem.ClaimJoined
import GoSem.ClaimMapViews
import Derived.JoinedTies
import Derived.KernelRfl
namespace Go.Proofs.Ytemfaondlhglbaa
/- THE CELL 'sum', in the pinned program and in every row, IS THE sha256 OF THE DUMP (.gsa) THAT YtemfaondlhglbaaProg.lean LOADS. Nothing in Lean hashes anything: it is a label: what it is worth is what the hold of that sum in a sandbox is worth. -/
noncomputable def Try.pinned : Pinned := { name := "ytemfaondlhglbaa", sum := "aa7f1f775b187221a8709509cc9bfd49a51f3d8b588e882e7f2b26ad1f0ef2d1", checked := Try.checked }
namespace Rows
def none {H : Type} : Left H := { results := [], args := [] }

/-- 'docketlaw22.ClockHeaps': WHATEVER THE INPUT: true; the input reads as it did. -/
def clockHeapsSpec : ChangeSpec := { name := "clockHeaps", fn := fun _ => fun
  | [d] => { results := [.lit (.bool true)], args := [d] }
  | _ => none }
def clockHeapsRow : OpenClaim := { program := "ytemfaondlhglbaa", sum := "aa7f1f775b187221a8709509cc9bfd49a51f3d8b588e882e7f2b26ad1f0ef2d1", func := "docket/docketlaw22.ClockHeaps", spec := "clockHeaps", inPlace := ["internal/bytealg.IndexByteString", "internal/bytealg.IndexString"], unfollowed := true, recurses := true, named := ["internal/bytealg.MaxLen"], apart := false }
def ClockHeapsSaid : Prop := clockHeapsRow.holds Try.pinned (OpenSpec.ofChange clockHeapsSpec)

/-- ITS FALSE NEIGHBOUR: 'it returns false'. Refute it at one input. -/
def clockHeapsWrong : ChangeSpec := { name := "clockHeaps", fn := fun _ => fun
  | [d] => { results := [.lit (.bool false)], args := [d] }
  | _ => none }
def ClockHeapsWrongFalsely : Prop := clockHeapsRow.holds Try.pinned (OpenSpec.ofChange clockHeapsWrong)

/-- 'docketlaw22.ClockDue': WHATEVER THE INPUT: true; the input reads as it did. -/
def clockDueSpec : ChangeSpec := { name := "clockDue", fn := fun _ => fun
  | [d1, d2] => { results := [.lit (.bool true)], args := [d1, d2] }
  | _ => none }
def clockDueRow : OpenClaim := { program := "ytemfaondlhglbaa", sum := "aa7f1f775b187221a8709509cc9bfd49a51f3d8b588e882e7f2b26ad1f0ef2d1", func := "docket/docketlaw22.ClockDue", spec := "clockDue", inPlace := ["internal/bytealg.IndexByteString", "internal/bytealg.IndexString", "slices.overlaps[docket/api.Timer]"], unfollowed := true, recurses := true, named := ["internal/bytealg.MaxLen"], apart := false }
def ClockDueSaid : Prop := clockDueRow.holds Try.pinned (OpenSpec.ofChange clockDueSpec)

/-- ITS FALSE NEIGHBOUR: 'it returns false'. Refute it at one input. -/
def clockDueWrong : ChangeSpec := { name := "clockDue", fn := fun _ => fun
  | [d1, d2] => { results := [.lit (.bool false)], args := [d1, d2] }
  | _ => none }
def ClockDueWrongFalsely : Prop := clockDueRow.holds Try.pinned (OpenSpec.ofChange clockDueWrong)

/-- 'docketlaw22.ClockLists': WHATEVER THE INPUT: true; the input reads as it did. -/
def clockListsSpec : ChangeSpec := { name := "clockLists", fn := fun _ => fun
  | [d1, d2, d3, d4, d5] => { results := [.lit (.bool true)], args := [d1, d2, d3, d4, d5] }
  | _ => none }
def clockListsRow : OpenClaim := { program := "ytemfaondlhglbaa", sum := "aa7f1f775b187221a8709509cc9bfd49a51f3d8b588e882e7f2b26ad1f0ef2d1", func := "docket/docketlaw22.ClockLists", spec := "clockLists", inPlace := ["internal/bytealg.IndexByteString", "internal/bytealg.IndexString", "slices.overlaps[docket/api.Timer]"], unfollowed := true, recurses := true, named := ["internal/bytealg.MaxLen"], apart := false }
def ClockListsSaid : Prop := clockListsRow.holds Try.pinned (OpenSpec.ofChange clockListsSpec)

/-- ITS FALSE NEIGHBOUR: 'it returns false'. Refute it at one input. -/
def clockListsWrong : ChangeSpec := { name := "clockLists", fn := fun _ => fun
  | [d1, d2, d3, d4, d5] => { results := [.lit (.bool false)], args := [d1, d2, d3, d4, d5] }
  | _ => none }
def ClockListsWrongFalsely : Prop := clockListsRow.holds Try.pinned (OpenSpec.ofChange clockListsWrong)

/-- 'docketlaw22.ClockOrder': WHATEVER THE INPUT: true; the input reads as it did. -/
def clockOrderSpec : ChangeSpec := { name := "clockOrder", fn := fun _ => fun
  | [d] => { results := [.lit (.bool true)], args := [d] }
  | _ => none }
def clockOrderRow : OpenClaim := { program := "ytemfaondlhglbaa", sum := "aa7f1f775b187221a8709509cc9bfd49a51f3d8b588e882e7f2b26ad1f0ef2d1", func := "docket/docketlaw22.ClockOrder", spec := "clockOrder", inPlace := ["internal/bytealg.IndexByteString", "internal/bytealg.IndexString", "slices.overlaps[docket/api.Timer]"], unfollowed := true, recurses := true, named := ["internal/bytealg.MaxLen"], apart := false }
def ClockOrderSaid : Prop := clockOrderRow.holds Try.pinned (OpenSpec.ofChange clockOrderSpec)

/-- ITS FALSE NEIGHBOUR: 'it returns false'. Refute it at one input. -/
def clockOrderWrong : ChangeSpec := { name := "clockOrder", fn := fun _ => fun
  | [d] => { results := [.lit (.bool false)], args := [d] }
  | _ => none }
def ClockOrderWrongFalsely : Prop := clockOrderRow.holds Try.pinned (OpenSpec.ofChange clockOrderWrong)

/-- 'docketlaw22.ClockNames': WHATEVER THE INPUT: true; the input reads as it did. -/
def clockNamesSpec : ChangeSpec := { name := "clockNames", fn := fun _ => fun
  | [] => { results := [.lit (.bool true)], args := [] }
  | _ => none }
def clockNamesRow : OpenClaim := { program := "ytemfaondlhglbaa", sum := "aa7f1f775b187221a8709509cc9bfd49a51f3d8b588e882e7f2b26ad1f0ef2d1", func := "docket/docketlaw22.ClockNames", spec := "clockNames", inPlace := ["internal/bytealg.IndexByteString", "internal/bytealg.IndexString", "slices.overlaps[docket/api.Timer]"], unfollowed := true, recurses := true, named := ["internal/bytealg.MaxLen"], apart := false }
def ClockNamesSaid : Prop := clockNamesRow.holds Try.pinned (OpenSpec.ofChange clockNamesSpec)

/-- ITS FALSE NEIGHBOUR: 'it returns false'. Refute it at one input. -/
def clockNamesWrong : ChangeSpec := { name := "clockNames", fn := fun _ => fun
  | [] => { results := [.lit (.bool false)], args := [] }
  | _ => none }
def ClockNamesWrongFalsely : Prop := clockNamesRow.holds Try.pinned (OpenSpec.ofChange clockNamesWrong)

/- THE SECOND FORM. 'bulk': how many values and letters a reading holds, each counted each time it is reached (what is shared counts as often as it is met; a slice's spare places count too). A statement '..UptoSaid' is the law's where the arguments, and the package variables that the reading takes, are together of bulk at most 1048576: NARROWER than '..Said'. Prove '..Said' where nothing that the law and all that it calls make is longer than what came in: it says more and counts as full. Else prove '..UptoSaid'. A law counts once. -/
mutual
def uptoBulk {H : Type} : DataW H → Nat
  | .lit (.string bytes) => bytes.length + 1
  | .lit _ => 1
  | .nil => 1
  | .ptr d => uptoBulk d + 1
  | .slice elems spare => uptoBulkAll elems + uptoBulkAll spare + 1
  | .agg parts => uptoBulkAll parts + 1
  | .iface _ d => uptoBulk d + 1
  | .map entries => uptoBulkEntries entries + 1
  | .held _ => 1
def uptoBulkAll {H : Type} : List (DataW H) → Nat
  | [] => 0
  | d :: r => uptoBulk d + uptoBulkAll r
def uptoBulkEntries {H : Type} : List (Lit × DataW H) → Nat
  | [] => 0
  | x :: r => uptoBulkEntry x + uptoBulkEntries r
def uptoBulkEntry {H : Type} : Lit × DataW H → Nat
  | (.string bytes, d) => bytes.length + uptoBulk d + 1
  | (_, d) => uptoBulk d + 1
 end
def uptoSmall : (H : Type) → List (DataW H) → Bool := fun _ ds => decide (uptoBulkAll ds ≤ 1048576)
def OpenSpec.upto (s : _root_.Go.ChangeSpec) : _root_.Go.OpenSpec := { _root_.Go.OpenSpec.ofChange s with cond := some uptoSmall }

/-- 'docketlaw22.ClockHeaps', WHERE WHAT IT READS IS OF BULK AT MOST 1048576: true; the input reads as it did. -/
def clockHeapsUptoRow : OpenClaim := { program := "ytemfaondlhglbaa", sum := "aa7f1f775b187221a8709509cc9bfd49a51f3d8b588e882e7f2b26ad1f0ef2d1", func := "docket/docketlaw22.ClockHeaps", spec := "clockHeaps", inPlace := ["internal/bytealg.IndexByteString", "internal/bytealg.IndexString"], unfollowed := true, recurses := true, named := ["internal/bytealg.MaxLen"], apart := false, narrowed := true }
def ClockHeapsUptoSaid : Prop := clockHeapsUptoRow.holds Try.pinned (OpenSpec.upto clockHeapsSpec)

/-- 'docketlaw22.ClockDue', WHERE WHAT IT READS IS OF BULK AT MOST 1048576: true; the input reads as it did. -/
def clockDueUptoRow : OpenClaim := { program := "ytemfaondlhglbaa", sum := "aa7f1f775b187221a8709509cc9bfd49a51f3d8b588e882e7f2b26ad1f0ef2d1", func := "docket/docketlaw22.ClockDue", spec := "clockDue", inPlace := ["internal/bytealg.IndexByteString", "internal/bytealg.IndexString", "slices.overlaps[docket/api.Timer]"], unfollowed := true, recurses := true, named := ["internal/bytealg.MaxLen"], apart := false, narrowed := true }
def ClockDueUptoSaid : Prop := clockDueUptoRow.holds Try.pinned (OpenSpec.upto clockDueSpec)

/-- 'docketlaw22.ClockLists', WHERE WHAT IT READS IS OF BULK AT MOST 1048576: true; the input reads as it did. -/
def clockListsUptoRow : OpenClaim := { program := "ytemfaondlhglbaa", sum := "aa7f1f775b187221a8709509cc9bfd49a51f3d8b588e882e7f2b26ad1f0ef2d1", func := "docket/docketlaw22.ClockLists", spec := "clockLists", inPlace := ["internal/bytealg.IndexByteString", "internal/bytealg.IndexString", "slices.overlaps[docket/api.Timer]"], unfollowed := true, recurses := true, named := ["internal/bytealg.MaxLen"], apart := false, narrowed := true }
def ClockListsUptoSaid : Prop := clockListsUptoRow.holds Try.pinned (OpenSpec.upto clockListsSpec)

/-- 'docketlaw22.ClockOrder', WHERE WHAT IT READS IS OF BULK AT MOST 1048576: true; the input reads as it did. -/
def clockOrderUptoRow : OpenClaim := { program := "ytemfaondlhglbaa", sum := "aa7f1f775b187221a8709509cc9bfd49a51f3d8b588e882e7f2b26ad1f0ef2d1", func := "docket/docketlaw22.ClockOrder", spec := "clockOrder", inPlace := ["internal/bytealg.IndexByteString", "internal/bytealg.IndexString", "slices.overlaps[docket/api.Timer]"], unfollowed := true, recurses := true, named := ["internal/bytealg.MaxLen"], apart := false, narrowed := true }
def ClockOrderUptoSaid : Prop := clockOrderUptoRow.holds Try.pinned (OpenSpec.upto clockOrderSpec)

/-- 'docketlaw22.ClockNames', WHERE WHAT IT READS IS OF BULK AT MOST 1048576: true; the input reads as it did. -/
def clockNamesUptoRow : OpenClaim := { program := "ytemfaondlhglbaa", sum := "aa7f1f775b187221a8709509cc9bfd49a51f3d8b588e882e7f2b26ad1f0ef2d1", func := "docket/docketlaw22.ClockNames", spec := "clockNames", inPlace := ["internal/bytealg.IndexByteString", "internal/bytealg.IndexString", "slices.overlaps[docket/api.Timer]"], unfollowed := true, recurses := true, named := ["internal/bytealg.MaxLen"], apart := false, narrowed := true }
def ClockNamesUptoSaid : Prop := clockNamesUptoRow.holds Try.pinned (OpenSpec.upto clockNamesSpec)

end Rows
end Go.Proofs.Ytemfaondlhglbaa
