/-
  No cell of these rows narrows 'for every input' (looked for: loops, veiled, ifaces, maps, wideKeys, modest, calm, conditions, laid).
  DERIVED. THE GIVEN ROWS OF THIS SEAT. 5 by the template 'for every input the law returns true; each argument reads behind the call as it read before'; 0 by the template 'total and deterministic' (their statements: YtjnagpddiemdhaaTotals.lean).
  GIVEN WITH THE SEED: the statements are not yours to turn. If you find one false, say at which input.
  Laid BY PROGRAM, IN A SANDBOX (cutbox-rows.mjs): the forced cells as the released guide's own fill.sh prints them over the translation 78221c78d2bab214… (all of the seat's roots in one cut). By AI agents, Wed Nov 11 2026. No macro, syntax, notation, axiom, sorry.
-/
import Derived.Test.YtjnagpddiemdhaaChecked
import GoSem.Claim
import GoSem.ClaimJoined
import GoSem.ClaimMapViews
import Derived.JoinedTies
import Derived.KernelRfl
namespace Go.Proofs.Ytjnagpddiemdhaa
/- THE CELL 'sum', in the pinned program and in every row, IS THE sha256 OF THE DUMP (.gsa) THAT YtjnagpddiemdhaaProg.lean LOADS. Nothing in Lean hashes anything: it is a label: what it is worth is what the hold of that sum in a sandbox is worth. -/
noncomputable def Try.pinned : Pinned := { name := "ytjnagpddiemdhaa", sum := "78221c78d2bab21422b38abff9c41497d26f161ce9d47090a89213203369c8a3", checked := Try.checked }
namespace Rows
def none {H : Type} : Left H := { results := [], args := [] }

/-- 'docketlaw23.WorkFor': WHATEVER THE INPUT: true; the input reads as it did. -/
def workForSpec : ChangeSpec := { name := "workFor", fn := fun _ => fun
  | [d1, d2, d3, d4, d5] => { results := [.lit (.bool true)], args := [d1, d2, d3, d4, d5] }
  | _ => none }
def workForRow : OpenClaim := { program := "ytjnagpddiemdhaa", sum := "78221c78d2bab21422b38abff9c41497d26f161ce9d47090a89213203369c8a3", func := "docket/docketlaw23.WorkFor", spec := "workFor", inPlace := ["internal/bytealg.IndexByteString", "internal/bytealg.IndexString"], unfollowed := true, recurses := true, named := ["internal/bytealg.MaxLen"], apart := false }
def WorkForSaid : Prop := workForRow.holds Try.pinned (OpenSpec.ofChange workForSpec)

/-- ITS FALSE NEIGHBOUR: 'it returns false'. Refute it at one input. -/
def workForWrong : ChangeSpec := { name := "workFor", fn := fun _ => fun
  | [d1, d2, d3, d4, d5] => { results := [.lit (.bool false)], args := [d1, d2, d3, d4, d5] }
  | _ => none }
def WorkForWrongFalsely : Prop := workForRow.holds Try.pinned (OpenSpec.ofChange workForWrong)

/-- 'docketlaw23.WorkPages': WHATEVER THE INPUT: true; the input reads as it did. -/
def workPagesSpec : ChangeSpec := { name := "workPages", fn := fun _ => fun
  | [d1, d2, d3, d4] => { results := [.lit (.bool true)], args := [d1, d2, d3, d4] }
  | _ => none }
def workPagesRow : OpenClaim := { program := "ytjnagpddiemdhaa", sum := "78221c78d2bab21422b38abff9c41497d26f161ce9d47090a89213203369c8a3", func := "docket/docketlaw23.WorkPages", spec := "workPages", inPlace := ["internal/bytealg.IndexByteString", "internal/bytealg.IndexString"], unfollowed := true, recurses := true, named := ["internal/bytealg.MaxLen"], apart := false }
def WorkPagesSaid : Prop := workPagesRow.holds Try.pinned (OpenSpec.ofChange workPagesSpec)

/-- ITS FALSE NEIGHBOUR: 'it returns false'. Refute it at one input. -/
def workPagesWrong : ChangeSpec := { name := "workPages", fn := fun _ => fun
  | [d1, d2, d3, d4] => { results := [.lit (.bool false)], args := [d1, d2, d3, d4] }
  | _ => none }
def WorkPagesWrongFalsely : Prop := workPagesRow.holds Try.pinned (OpenSpec.ofChange workPagesWrong)

/-- 'docketlaw23.WorkTurns': WHATEVER THE INPUT: true; the input reads as it did. -/
def workTurnsSpec : ChangeSpec := { name := "workTurns", fn := fun _ => fun
  | [d1, d2, d3, d4, d5, d6] => { results := [.lit (.bool true)], args := [d1, d2, d3, d4, d5, d6] }
  | _ => none }
def workTurnsRow : OpenClaim := { program := "ytjnagpddiemdhaa", sum := "78221c78d2bab21422b38abff9c41497d26f161ce9d47090a89213203369c8a3", func := "docket/docketlaw23.WorkTurns", spec := "workTurns", inPlace := ["internal/bytealg.IndexByteString", "internal/bytealg.IndexString"], unfollowed := true, recurses := true, named := ["internal/bytealg.MaxLen"], apart := false }
def WorkTurnsSaid : Prop := workTurnsRow.holds Try.pinned (OpenSpec.ofChange workTurnsSpec)

/-- ITS FALSE NEIGHBOUR: 'it returns false'. Refute it at one input. -/
def workTurnsWrong : ChangeSpec := { name := "workTurns", fn := fun _ => fun
  | [d1, d2, d3, d4, d5, d6] => { results := [.lit (.bool false)], args := [d1, d2, d3, d4, d5, d6] }
  | _ => none }
def WorkTurnsWrongFalsely : Prop := workTurnsRow.holds Try.pinned (OpenSpec.ofChange workTurnsWrong)

/-- 'docketlaw23.WorkBack': WHATEVER THE INPUT: true; the input reads as it did. -/
def workBackSpec : ChangeSpec := { name := "workBack", fn := fun _ => fun
  | [d1, d2, d3, d4] => { results := [.lit (.bool true)], args := [d1, d2, d3, d4] }
  | _ => none }
def workBackRow : OpenClaim := { program := "ytjnagpddiemdhaa", sum := "78221c78d2bab21422b38abff9c41497d26f161ce9d47090a89213203369c8a3", func := "docket/docketlaw23.WorkBack", spec := "workBack", inPlace := ["internal/bytealg.IndexByteString", "internal/bytealg.IndexString"], unfollowed := true, recurses := true, named := ["internal/bytealg.MaxLen"], apart := false }
def WorkBackSaid : Prop := workBackRow.holds Try.pinned (OpenSpec.ofChange workBackSpec)

/-- ITS FALSE NEIGHBOUR: 'it returns false'. Refute it at one input. -/
def workBackWrong : ChangeSpec := { name := "workBack", fn := fun _ => fun
  | [d1, d2, d3, d4] => { results := [.lit (.bool false)], args := [d1, d2, d3, d4] }
  | _ => none }
def WorkBackWrongFalsely : Prop := workBackRow.holds Try.pinned (OpenSpec.ofChange workBackWrong)

/-- 'docketlaw23.WorkNames': WHATEVER THE INPUT: true; the input reads as it did. -/
def workNamesSpec : ChangeSpec := { name := "workNames", fn := fun _ => fun
  | [] => { results := [.lit (.bool true)], args := [] }
  | _ => none }
def workNamesRow : OpenClaim := { program := "ytjnagpddiemdhaa", sum := "78221c78d2bab21422b38abff9c41497d26f161ce9d47090a89213203369c8a3", func := "docket/docketlaw23.WorkNames", spec := "workNames", inPlace := ["internal/bytealg.IndexByteString", "internal/bytealg.IndexString"], unfollowed := true, recurses := true, named := ["internal/bytealg.MaxLen"], apart := false }
def WorkNamesSaid : Prop := workNamesRow.holds Try.pinned (OpenSpec.ofChange workNamesSpec)

/-- ITS FALSE NEIGHBOUR: 'it returns false'. Refute it at one input. -/
def workNamesWrong : ChangeSpec := { name := "workNames", fn := fun _ => fun
  | [] => { results := [.lit (.bool false)], args := [] }
  | _ => none }
def WorkNamesWrongFalsely : Prop := workNamesRow.holds Try.pinned (OpenSpec.ofChange workNamesWrong)

/- THE SECOND FORM. 'bulk': how many values and letters a reading holds, each counted each time it is reached (what is shared counts as often as it is met; a slice's spare places count too). A statement '..UptoSaid' is the law's where the arguments, and the package variables that the reading takes, are together of bulk at most 1048576: NARROWER than '..Said'. Prove '..Said' where nothing that the law and all that it calls make is longer than what came in: it says more and counts as full. Else prove '..UptoSaid'. A law counts once. -/
mutual
def uptoBulk {H : Type} : DataW H → Nat
  | .lit (.string bytes) => bytes.length + 1
  | .lit _ => 1
  | .nil => 1
  | .ptr d => uptoBulk d + 1
  | .slice elems spare => uptoBulkAll elems + uptoBulkAll spare + 1
  | .agg parts => uptoBulkAll parts + 1
  | .iface _ d => uptoBulk d + 1
  | .map entries => uptoBulkEntries entries + 1
  | .held _ => 1
def uptoBulkAll {H : Type} : List (DataW H) → Nat
  | [] => 0
  | d :: r => uptoBulk d + uptoBulkAll r
def uptoBulkEntries {H : Type} : List (Lit × DataW H) → Nat
  | [] => 0
  | x :: r => uptoBulkEntry x + uptoBulkEntries r
def uptoBulkEntry {H : Type} : Lit × DataW H → Nat
  | (.string bytes, d) => bytes.length + uptoBulk d + 1
  | (_, d) => uptoBulk d + 1
 end
def uptoSmall : (H : Type) → List (DataW H) → Bool := fun _ ds => decide (uptoBulkAll ds ≤ 1048576)
def OpenSpec.upto (s : _root_.Go.ChangeSpec) : _root_.Go.OpenSpec := { _root_.Go.OpenSpec.ofChange s with cond := some uptoSmall }

/-- 'docketlaw23.WorkFor', WHERE WHAT IT READS IS OF BULK AT MOST 1048576: true; the input reads as it did. -/
def workForUptoRow : OpenClaim := { program := "ytjnagpddiemdhaa", sum := "78221c78d2bab21422b38abff9c41497d26f161ce9d47090a89213203369c8a3", func := "docket/docketlaw23.WorkFor", spec := "workFor", inPlace := ["internal/bytealg.IndexByteString", "internal/bytealg.IndexString"], unfollowed := true, recurses := true, named := ["internal/bytealg.MaxLen"], apart := false, narrowed := true }
def WorkForUptoSaid : Prop := workForUptoRow.holds Try.pinned (OpenSpec.upto workForSpec)

/-- 'docketlaw23.WorkPages', WHERE WHAT IT READS IS OF BULK AT MOST 1048576: true; the input reads as it did. -/
def workPagesUptoRow : OpenClaim := { program := "ytjnagpddiemdhaa", sum := "78221c78d2bab21422b38abff9c41497d26f161ce9d47090a89213203369c8a3", func := "docket/docketlaw23.WorkPages", spec := "workPages", inPlace := ["internal/bytealg.IndexByteString", "internal/bytealg.IndexString"], unfollowed := true, recurses := true, named := ["internal/bytealg.MaxLen"], apart := false, narrowed := true }
def WorkPagesUptoSaid : Prop := workPagesUptoRow.holds Try.pinned (OpenSpec.upto workPagesSpec)

/-- 'docketlaw23.WorkTurns', WHERE WHAT IT READS IS OF BULK AT MOST 1048576: true; the input reads as it did. -/
def workTurnsUptoRow : OpenClaim := { program := "ytjnagpddiemdhaa", sum := "78221c78d2bab21422b38abff9c41497d26f161ce9d47090a89213203369c8a3", func := "docket/docketlaw23.WorkTurns", spec := "workTurns", inPlace := ["internal/bytealg.IndexByteString", "internal/bytealg.IndexString"], unfollowed := true, recurses := true, named := ["internal/bytealg.MaxLen"], apart := false, narrowed := true }
def WorkTurnsUptoSaid : Prop := workTurnsUptoRow.holds Try.pinned (OpenSpec.upto workTurnsSpec)

/-- 'docketlaw23.WorkBack', WHERE WHAT IT READS IS OF BULK AT MOST 1048576: true; the input reads as it did. -/
def workBackUptoRow : OpenClaim := { program := "ytjnagpddiemdhaa", sum := "78221c78d2bab21422b38abff9c41497d26f161ce9d47090a89213203369c8a3", func := "docket/docketlaw23.WorkBack", spec := "workBack", inPlace := ["internal/bytealg.IndexByteString", "internal/bytealg.IndexString"], unfollowed := true, recurses := true, named := ["internal/bytealg.MaxLen"], apart := false, narrowed := true }
def WorkBackUptoSaid : Prop := workBackUptoRow.holds Try.pinned (OpenSpec.upto workBackSpec)

/-- 'docketlaw23.WorkNames', WHERE WHAT IT READS IS OF BULK AT MOST 1048576: true; the input reads as it did. -/
def workNamesUptoRow : OpenClaim := { program := "ytjnagpddiemdhaa", sum := "78221c78d2bab21422b38abff9c41497d26f161ce9d47090a89213203369c8a3", func := "docket/docketlaw23.WorkNames", spec := "workNames", inPlace := ["internal/bytealg.IndexByteString", "internal/bytealg.IndexString"], unfollowed := true, recurses := true, named := ["internal/bytealg.MaxLen"], apart := false, narrowed := true }
def WorkNamesUptoSaid : Prop := workNamesUptoRow.holds Try.pinned (OpenSpec.upto workNamesSpec)

end Rows
end Go.Proofs.Ytjnagpddiemdhaa
