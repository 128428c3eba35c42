/-
  No cell of these rows narrows 'for every input' (looked for: loops, veiled, ifaces, maps, wideKeys, modest, calm, conditions, laid).
  DERIVED. THE GIVEN ROWS OF THIS SEAT. 4 by the template 'for every input the law returns true; each argument reads behind the call as it read before'; 0 by the template 'total and deterministic' (their statements: YtniibgdokfnomaaGreatTotals.lean).
  GIVEN WITH THE SEED: the statements are not yours to turn. If you find one false, say at which input.
  Laid BY PROGRAM, IN A SANDBOX (cutbox-rows.mjs): the forced cells as the released guide's own fill.sh prints them over the translation e369bd435e00aab5… (all of the seat's roots in one cut). By AI agents, Wed Nov 11 2026. No macro, syntax, notation, axiom, sorry.
-/
import Derived.Test.YtniibgdokfnomaaGreatChecked
import GoSem.Claim
import GoSem.ClaimJoined
import GoSem.ClaimMapViews
import Derived.JoinedTies
import Derived.KernelRfl
namespace Go.Proofs.YtniibgdokfnomaaGreat
/- THE CELL 'sum', in the pinned program and in every row, IS THE sha256 OF THE DUMP (.gsa) THAT YtniibgdokfnomaaGreatProg.lean LOADS. Nothing in Lean hashes anything: it is a label: what it is worth is what the hold of that sum in a sandbox is worth. -/
noncomputable def Tryz.pinned : Pinned := { name := "ytniibgdokfnomaagreat", sum := "e369bd435e00aab5d5e788a6d010a707932a549876daaacfad739084d9e7ea49", checked := Tryz.checked }
namespace Rows
def none {H : Type} : Left H := { results := [], args := [] }

/-- 'laws.FnExactIsRecorded': WHATEVER THE INPUT: true; the input reads as it did. -/
def fnExactIsRecordedSpec : ChangeSpec := { name := "fnExactIsRecorded", fn := fun _ => fun
  | [d] => { results := [.lit (.bool true)], args := [d] }
  | _ => none }
def fnExactIsRecordedRow : OpenClaim := { program := "ytniibgdokfnomaagreat", sum := "e369bd435e00aab5d5e788a6d010a707932a549876daaacfad739084d9e7ea49", func := "loop.example/g03003/laws.FnExactIsRecorded", spec := "fnExactIsRecorded", inPlace := ["slices.overlaps[loop.example/g03003/impl.Used]"], unfollowed := true, recurses := true, apart := false }
def FnExactIsRecordedSaid : Prop := fnExactIsRecordedRow.holds Tryz.pinned (OpenSpec.ofChange fnExactIsRecordedSpec)

/-- ITS FALSE NEIGHBOUR: 'it returns false'. Refute it at one input. -/
def fnExactIsRecordedWrong : ChangeSpec := { name := "fnExactIsRecorded", fn := fun _ => fun
  | [d] => { results := [.lit (.bool false)], args := [d] }
  | _ => none }
def FnExactIsRecordedWrongFalsely : Prop := fnExactIsRecordedRow.holds Tryz.pinned (OpenSpec.ofChange fnExactIsRecordedWrong)

/-- 'laws.FnExactStepWord': WHATEVER THE INPUT: true; the input reads as it did. -/
def fnExactStepWordSpec : ChangeSpec := { name := "fnExactStepWord", fn := fun _ => fun
  | [d1, d2, d3] => { results := [.lit (.bool true)], args := [d1, d2, d3] }
  | _ => none }
def fnExactStepWordRow : OpenClaim := { program := "ytniibgdokfnomaagreat", sum := "e369bd435e00aab5d5e788a6d010a707932a549876daaacfad739084d9e7ea49", func := "loop.example/g03003/laws.FnExactStepWord", spec := "fnExactStepWord", inPlace := ["slices.overlaps[loop.example/g03003/impl.Listed]", "slices.overlaps[loop.example/g03003/impl.Meaning]"], unfollowed := true, recurses := true, apart := false }
def FnExactStepWordSaid : Prop := fnExactStepWordRow.holds Tryz.pinned (OpenSpec.ofChange fnExactStepWordSpec)

/-- ITS FALSE NEIGHBOUR: 'it returns false'. Refute it at one input. -/
def fnExactStepWordWrong : ChangeSpec := { name := "fnExactStepWord", fn := fun _ => fun
  | [d1, d2, d3] => { results := [.lit (.bool false)], args := [d1, d2, d3] }
  | _ => none }
def FnExactStepWordWrongFalsely : Prop := fnExactStepWordRow.holds Tryz.pinned (OpenSpec.ofChange fnExactStepWordWrong)

/-- 'laws.FnExactAreFitting': WHATEVER THE INPUT: true; the input reads as it did. -/
def fnExactAreFittingSpec : ChangeSpec := { name := "fnExactAreFitting", fn := fun _ => fun
  | [d] => { results := [.lit (.bool true)], args := [d] }
  | _ => none }
def fnExactAreFittingRow : OpenClaim := { program := "ytniibgdokfnomaagreat", sum := "e369bd435e00aab5d5e788a6d010a707932a549876daaacfad739084d9e7ea49", func := "loop.example/g03003/laws.FnExactAreFitting", spec := "fnExactAreFitting", unfollowed := true, recurses := true, apart := false }
def FnExactAreFittingSaid : Prop := fnExactAreFittingRow.holds Tryz.pinned (OpenSpec.ofChange fnExactAreFittingSpec)

/-- ITS FALSE NEIGHBOUR: 'it returns false'. Refute it at one input. -/
def fnExactAreFittingWrong : ChangeSpec := { name := "fnExactAreFitting", fn := fun _ => fun
  | [d] => { results := [.lit (.bool false)], args := [d] }
  | _ => none }
def FnExactAreFittingWrongFalsely : Prop := fnExactAreFittingRow.holds Tryz.pinned (OpenSpec.ofChange fnExactAreFittingWrong)

/-- 'laws.FnExactFirstIn': WHATEVER THE INPUT: true; the input reads as it did. -/
def fnExactFirstInSpec : ChangeSpec := { name := "fnExactFirstIn", fn := fun _ => fun
  | [d1, d2] => { results := [.lit (.bool true)], args := [d1, d2] }
  | _ => none }
def fnExactFirstInRow : OpenClaim := { program := "ytniibgdokfnomaagreat", sum := "e369bd435e00aab5d5e788a6d010a707932a549876daaacfad739084d9e7ea49", func := "loop.example/g03003/laws.FnExactFirstIn", spec := "fnExactFirstIn", unfollowed := true, recurses := true, apart := false }
def FnExactFirstInSaid : Prop := fnExactFirstInRow.holds Tryz.pinned (OpenSpec.ofChange fnExactFirstInSpec)

/-- ITS FALSE NEIGHBOUR: 'it returns false'. Refute it at one input. -/
def fnExactFirstInWrong : ChangeSpec := { name := "fnExactFirstIn", fn := fun _ => fun
  | [d1, d2] => { results := [.lit (.bool false)], args := [d1, d2] }
  | _ => none }
def FnExactFirstInWrongFalsely : Prop := fnExactFirstInRow.holds Tryz.pinned (OpenSpec.ofChange fnExactFirstInWrong)

/- THE SECOND FORM. 'bulk': how many values and letters a reading holds, each counted each time it is reached (what is shared counts as often as it is met; a slice's spare places count too). A statement '..UptoSaid' is the law's where the arguments, and the package variables that the reading takes, are together of bulk at most 1048576: NARROWER than '..Said'. Prove '..Said' where nothing that the law and all that it calls make is longer than what came in: it says more and counts as full. Else prove '..UptoSaid'. A law counts once. -/
mutual
def uptoBulk {H : Type} : DataW H → Nat
  | .lit (.string bytes) => bytes.length + 1
  | .lit _ => 1
  | .nil => 1
  | .ptr d => uptoBulk d + 1
  | .slice elems spare => uptoBulkAll elems + uptoBulkAll spare + 1
  | .agg parts => uptoBulkAll parts + 1
  | .iface _ d => uptoBulk d + 1
  | .map entries => uptoBulkEntries entries + 1
  | .held _ => 1
def uptoBulkAll {H : Type} : List (DataW H) → Nat
  | [] => 0
  | d :: r => uptoBulk d + uptoBulkAll r
def uptoBulkEntries {H : Type} : List (Lit × DataW H) → Nat
  | [] => 0
  | x :: r => uptoBulkEntry x + uptoBulkEntries r
def uptoBulkEntry {H : Type} : Lit × DataW H → Nat
  | (.string bytes, d) => bytes.length + uptoBulk d + 1
  | (_, d) => uptoBulk d + 1
 end
def uptoSmall : (H : Type) → List (DataW H) → Bool := fun _ ds => decide (uptoBulkAll ds ≤ 1048576)
def OpenSpec.upto (s : _root_.Go.ChangeSpec) : _root_.Go.OpenSpec := { _root_.Go.OpenSpec.ofChange s with cond := some uptoSmall }

/-- 'laws.FnExactIsRecorded', WHERE WHAT IT READS IS OF BULK AT MOST 1048576: true; the input reads as it did. -/
def fnExactIsRecordedUptoRow : OpenClaim := { program := "ytniibgdokfnomaagreat", sum := "e369bd435e00aab5d5e788a6d010a707932a549876daaacfad739084d9e7ea49", func := "loop.example/g03003/laws.FnExactIsRecorded", spec := "fnExactIsRecorded", inPlace := ["slices.overlaps[loop.example/g03003/impl.Used]"], unfollowed := true, recurses := true, apart := false, narrowed := true }
def FnExactIsRecordedUptoSaid : Prop := fnExactIsRecordedUptoRow.holds Tryz.pinned (OpenSpec.upto fnExactIsRecordedSpec)

/-- 'laws.FnExactStepWord', WHERE WHAT IT READS IS OF BULK AT MOST 1048576: true; the input reads as it did. -/
def fnExactStepWordUptoRow : OpenClaim := { program := "ytniibgdokfnomaagreat", sum := "e369bd435e00aab5d5e788a6d010a707932a549876daaacfad739084d9e7ea49", func := "loop.example/g03003/laws.FnExactStepWord", spec := "fnExactStepWord", inPlace := ["slices.overlaps[loop.example/g03003/impl.Listed]", "slices.overlaps[loop.example/g03003/impl.Meaning]"], unfollowed := true, recurses := true, apart := false, narrowed := true }
def FnExactStepWordUptoSaid : Prop := fnExactStepWordUptoRow.holds Tryz.pinned (OpenSpec.upto fnExactStepWordSpec)

/-- 'laws.FnExactAreFitting', WHERE WHAT IT READS IS OF BULK AT MOST 1048576: true; the input reads as it did. -/
def fnExactAreFittingUptoRow : OpenClaim := { program := "ytniibgdokfnomaagreat", sum := "e369bd435e00aab5d5e788a6d010a707932a549876daaacfad739084d9e7ea49", func := "loop.example/g03003/laws.FnExactAreFitting", spec := "fnExactAreFitting", unfollowed := true, recurses := true, apart := false, narrowed := true }
def FnExactAreFittingUptoSaid : Prop := fnExactAreFittingUptoRow.holds Tryz.pinned (OpenSpec.upto fnExactAreFittingSpec)

/-- 'laws.FnExactFirstIn', WHERE WHAT IT READS IS OF BULK AT MOST 1048576: true; the input reads as it did. -/
def fnExactFirstInUptoRow : OpenClaim := { program := "ytniibgdokfnomaagreat", sum := "e369bd435e00aab5d5e788a6d010a707932a549876daaacfad739084d9e7ea49", func := "loop.example/g03003/laws.FnExactFirstIn", spec := "fnExactFirstIn", unfollowed := true, recurses := true, apart := false, narrowed := true }
def FnExactFirstInUptoSaid : Prop := fnExactFirstInUptoRow.holds Tryz.pinned (OpenSpec.upto fnExactFirstInSpec)

end Rows
end Go.Proofs.YtniibgdokfnomaaGreat
