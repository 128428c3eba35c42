/-
  No cell of these rows narrows 'for every input' (looked for: loops, veiled, ifaces, maps, wideKeys, modest, calm, conditions, laid).
  DERIVED. THE GIVEN ROWS OF THIS SEAT. 3 by the template 'for every input the law returns true; each argument reads behind the call as it read before'; 0 by the template 'total and deterministic' (their statements: YtefbbjneleifjaaGreatTotals.lean).
  GIVEN WITH THE SEED: the statements are not yours to turn. If you find one false, say at which input.
  Laid BY PROGRAM, IN A SANDBOX (cutbox-rows.mjs): the forced cells as the released guide's own fill.sh prints them over the translation fc0e0497f4b85b54… (all of the seat's roots in one cut). By AI agents, Wed Nov 11 2026. No macro, syntax, notation, axiom, sorry.
-/
import Derived.Test.YtefbbjneleifjaaGreatChecked
import GoSem.Claim
import GoSem.ClaimJoined
import GoSem.ClaimMapViews
import Derived.JoinedTies
import Derived.KernelRfl
namespace Go.Proofs.YtefbbjneleifjaaGreat
/- THE CELL 'sum', in the pinned program and in every row, IS THE sha256 OF THE DUMP (.gsa) THAT YtefbbjneleifjaaGreatProg.lean LOADS. Nothing in Lean hashes anything: it is a label: what it is worth is what the hold of that sum in a sandbox is worth. -/
noncomputable def Tryz.pinned : Pinned := { name := "ytefbbjneleifjaagreat", sum := "fc0e0497f4b85b5447cc8281446b4cdc9774ce776751ea982737b68fdc6892c0", checked := Tryz.checked }
namespace Rows
def none {H : Type} : Left H := { results := [], args := [] }

/-- 'laws.FnExactIssueScore': WHATEVER THE INPUT: true; the input reads as it did. -/
def fnExactIssueScoreSpec : ChangeSpec := { name := "fnExactIssueScore", fn := fun _ => fun
  | [d1, d2] => { results := [.lit (.bool true)], args := [d1, d2] }
  | _ => none }
def fnExactIssueScoreRow : OpenClaim := { program := "ytefbbjneleifjaagreat", sum := "fc0e0497f4b85b5447cc8281446b4cdc9774ce776751ea982737b68fdc6892c0", func := "loop.example/g03003/laws.FnExactIssueScore", spec := "fnExactIssueScore", unfollowed := true, recurses := true, apart := false }
def FnExactIssueScoreSaid : Prop := fnExactIssueScoreRow.holds Tryz.pinned (OpenSpec.ofChange fnExactIssueScoreSpec)

/-- ITS FALSE NEIGHBOUR: 'it returns false'. Refute it at one input. -/
def fnExactIssueScoreWrong : ChangeSpec := { name := "fnExactIssueScore", fn := fun _ => fun
  | [d1, d2] => { results := [.lit (.bool false)], args := [d1, d2] }
  | _ => none }
def FnExactIssueScoreWrongFalsely : Prop := fnExactIssueScoreRow.holds Tryz.pinned (OpenSpec.ofChange fnExactIssueScoreWrong)

/-- 'laws.FnExactIsRecorded': WHATEVER THE INPUT: true; the input reads as it did. -/
def fnExactIsRecordedSpec : ChangeSpec := { name := "fnExactIsRecorded", fn := fun _ => fun
  | [d] => { results := [.lit (.bool true)], args := [d] }
  | _ => none }
def fnExactIsRecordedRow : OpenClaim := { program := "ytefbbjneleifjaagreat", sum := "fc0e0497f4b85b5447cc8281446b4cdc9774ce776751ea982737b68fdc6892c0", func := "loop.example/g03003/laws.FnExactIsRecorded", spec := "fnExactIsRecorded", inPlace := ["slices.overlaps[loop.example/g03003/impl.Used]"], unfollowed := true, recurses := true, apart := false }
def FnExactIsRecordedSaid : Prop := fnExactIsRecordedRow.holds Tryz.pinned (OpenSpec.ofChange fnExactIsRecordedSpec)

/-- ITS FALSE NEIGHBOUR: 'it returns false'. Refute it at one input. -/
def fnExactIsRecordedWrong : ChangeSpec := { name := "fnExactIsRecorded", fn := fun _ => fun
  | [d] => { results := [.lit (.bool false)], args := [d] }
  | _ => none }
def FnExactIsRecordedWrongFalsely : Prop := fnExactIsRecordedRow.holds Tryz.pinned (OpenSpec.ofChange fnExactIsRecordedWrong)

/-- 'laws.FnExactHardestIssue': WHATEVER THE INPUT: true; the input reads as it did. -/
def fnExactHardestIssueSpec : ChangeSpec := { name := "fnExactHardestIssue", fn := fun _ => fun
  | [d] => { results := [.lit (.bool true)], args := [d] }
  | _ => none }
def fnExactHardestIssueRow : OpenClaim := { program := "ytefbbjneleifjaagreat", sum := "fc0e0497f4b85b5447cc8281446b4cdc9774ce776751ea982737b68fdc6892c0", func := "loop.example/g03003/laws.FnExactHardestIssue", spec := "fnExactHardestIssue", unfollowed := true, recurses := true, apart := false }
def FnExactHardestIssueSaid : Prop := fnExactHardestIssueRow.holds Tryz.pinned (OpenSpec.ofChange fnExactHardestIssueSpec)

/-- ITS FALSE NEIGHBOUR: 'it returns false'. Refute it at one input. -/
def fnExactHardestIssueWrong : ChangeSpec := { name := "fnExactHardestIssue", fn := fun _ => fun
  | [d] => { results := [.lit (.bool false)], args := [d] }
  | _ => none }
def FnExactHardestIssueWrongFalsely : Prop := fnExactHardestIssueRow.holds Tryz.pinned (OpenSpec.ofChange fnExactHardestIssueWrong)

/- THE SECOND FORM. 'bulk': how many values and letters a reading holds, each counted each time it is reached (what is shared counts as often as it is met; a slice's spare places count too). A statement '..UptoSaid' is the law's where the arguments, and the package variables that the reading takes, are together of bulk at most 1048576: NARROWER than '..Said'. Prove '..Said' where nothing that the law and all that it calls make is longer than what came in: it says more and counts as full. Else prove '..UptoSaid'. A law counts once. -/
mutual
def uptoBulk {H : Type} : DataW H → Nat
  | .lit (.string bytes) => bytes.length + 1
  | .lit _ => 1
  | .nil => 1
  | .ptr d => uptoBulk d + 1
  | .slice elems spare => uptoBulkAll elems + uptoBulkAll spare + 1
  | .agg parts => uptoBulkAll parts + 1
  | .iface _ d => uptoBulk d + 1
  | .map entries => uptoBulkEntries entries + 1
  | .held _ => 1
def uptoBulkAll {H : Type} : List (DataW H) → Nat
  | [] => 0
  | d :: r => uptoBulk d + uptoBulkAll r
def uptoBulkEntries {H : Type} : List (Lit × DataW H) → Nat
  | [] => 0
  | x :: r => uptoBulkEntry x + uptoBulkEntries r
def uptoBulkEntry {H : Type} : Lit × DataW H → Nat
  | (.string bytes, d) => bytes.length + uptoBulk d + 1
  | (_, d) => uptoBulk d + 1
 end
def uptoSmall : (H : Type) → List (DataW H) → Bool := fun _ ds => decide (uptoBulkAll ds ≤ 1048576)
def OpenSpec.upto (s : _root_.Go.ChangeSpec) : _root_.Go.OpenSpec := { _root_.Go.OpenSpec.ofChange s with cond := some uptoSmall }

/-- 'laws.FnExactIssueScore', WHERE WHAT IT READS IS OF BULK AT MOST 1048576: true; the input reads as it did. -/
def fnExactIssueScoreUptoRow : OpenClaim := { program := "ytefbbjneleifjaagreat", sum := "fc0e0497f4b85b5447cc8281446b4cdc9774ce776751ea982737b68fdc6892c0", func := "loop.example/g03003/laws.FnExactIssueScore", spec := "fnExactIssueScore", unfollowed := true, recurses := true, apart := false, narrowed := true }
def FnExactIssueScoreUptoSaid : Prop := fnExactIssueScoreUptoRow.holds Tryz.pinned (OpenSpec.upto fnExactIssueScoreSpec)

/-- 'laws.FnExactIsRecorded', WHERE WHAT IT READS IS OF BULK AT MOST 1048576: true; the input reads as it did. -/
def fnExactIsRecordedUptoRow : OpenClaim := { program := "ytefbbjneleifjaagreat", sum := "fc0e0497f4b85b5447cc8281446b4cdc9774ce776751ea982737b68fdc6892c0", func := "loop.example/g03003/laws.FnExactIsRecorded", spec := "fnExactIsRecorded", inPlace := ["slices.overlaps[loop.example/g03003/impl.Used]"], unfollowed := true, recurses := true, apart := false, narrowed := true }
def FnExactIsRecordedUptoSaid : Prop := fnExactIsRecordedUptoRow.holds Tryz.pinned (OpenSpec.upto fnExactIsRecordedSpec)

/-- 'laws.FnExactHardestIssue', WHERE WHAT IT READS IS OF BULK AT MOST 1048576: true; the input reads as it did. -/
def fnExactHardestIssueUptoRow : OpenClaim := { program := "ytefbbjneleifjaagreat", sum := "fc0e0497f4b85b5447cc8281446b4cdc9774ce776751ea982737b68fdc6892c0", func := "loop.example/g03003/laws.FnExactHardestIssue", spec := "fnExactHardestIssue", unfollowed := true, recurses := true, apart := false, narrowed := true }
def FnExactHardestIssueUptoSaid : Prop := fnExactHardestIssueUptoRow.holds Tryz.pinned (OpenSpec.upto fnExactHardestIssueSpec)

end Rows
end Go.Proofs.YtefbbjneleifjaaGreat
