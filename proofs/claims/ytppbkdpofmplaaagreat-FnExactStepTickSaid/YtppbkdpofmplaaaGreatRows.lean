/-
  No cell of these rows narrows 'for every input' (looked for: loops, veiled, ifaces, maps, wideKeys, modest, calm, conditions, laid).
  DERIVED. THE GIVEN ROWS OF THIS SEAT. 4 by the template 'for every input the law returns true; each argument reads behind the call as it read before'; 0 by the template 'total and deterministic' (their statements: YtppbkdpofmplaaaGreatTotals.lean).
  GIVEN WITH THE SEED: the statements are not yours to turn. If you find one false, say at which input.
  Laid BY PROGRAM, IN A SANDBOX (cutbox-rows.mjs): the forced cells as the released guide's own fill.sh prints them over the translation 19d144e7e7e64b69… (all of the seat's roots in one cut). By AI agents, Wed Nov 11 2026. No macro, syntax, notation, axiom, sorry.
-/
import Derived.Test.YtppbkdpofmplaaaGreatChecked
import GoSem.Claim
import GoSem.ClaimJoined
import GoSem.ClaimMapViews
import Derived.JoinedTies
import Derived.KernelRfl
namespace Go.Proofs.YtppbkdpofmplaaaGreat
/- THE CELL 'sum', in the pinned program and in every row, IS THE sha256 OF THE DUMP (.gsa) THAT YtppbkdpofmplaaaGreatProg.lean LOADS. Nothing in Lean hashes anything: it is a label: what it is worth is what the hold of that sum in a sandbox is worth. -/
noncomputable def Tryz.pinned : Pinned := { name := "ytppbkdpofmplaaagreat", sum := "19d144e7e7e64b69f105b9d140b96e4a8e74abf56c833923cbcca85e45f9f30d", checked := Tryz.checked }
namespace Rows
def none {H : Type} : Left H := { results := [], args := [] }

/-- 'laws.FnExactPointsIn': WHATEVER THE INPUT: true; the input reads as it did. -/
def fnExactPointsInSpec : ChangeSpec := { name := "fnExactPointsIn", fn := fun _ => fun
  | [d1, d2, d3] => { results := [.lit (.bool true)], args := [d1, d2, d3] }
  | _ => none }
def fnExactPointsInRow : OpenClaim := { program := "ytppbkdpofmplaaagreat", sum := "19d144e7e7e64b69f105b9d140b96e4a8e74abf56c833923cbcca85e45f9f30d", func := "loop.example/g03003/laws.FnExactPointsIn", spec := "fnExactPointsIn", unfollowed := true, recurses := true, apart := false }
def FnExactPointsInSaid : Prop := fnExactPointsInRow.holds Tryz.pinned (OpenSpec.ofChange fnExactPointsInSpec)

/-- ITS FALSE NEIGHBOUR: 'it returns false'. Refute it at one input. -/
def fnExactPointsInWrong : ChangeSpec := { name := "fnExactPointsIn", fn := fun _ => fun
  | [d1, d2, d3] => { results := [.lit (.bool false)], args := [d1, d2, d3] }
  | _ => none }
def FnExactPointsInWrongFalsely : Prop := fnExactPointsInRow.holds Tryz.pinned (OpenSpec.ofChange fnExactPointsInWrong)

/-- 'laws.FnExactTotalOf': WHATEVER THE INPUT: true; the input reads as it did. -/
def fnExactTotalOfSpec : ChangeSpec := { name := "fnExactTotalOf", fn := fun _ => fun
  | [d1, d2] => { results := [.lit (.bool true)], args := [d1, d2] }
  | _ => none }
def fnExactTotalOfRow : OpenClaim := { program := "ytppbkdpofmplaaagreat", sum := "19d144e7e7e64b69f105b9d140b96e4a8e74abf56c833923cbcca85e45f9f30d", func := "loop.example/g03003/laws.FnExactTotalOf", spec := "fnExactTotalOf", unfollowed := true, recurses := true, apart := false }
def FnExactTotalOfSaid : Prop := fnExactTotalOfRow.holds Tryz.pinned (OpenSpec.ofChange fnExactTotalOfSpec)

/-- ITS FALSE NEIGHBOUR: 'it returns false'. Refute it at one input. -/
def fnExactTotalOfWrong : ChangeSpec := { name := "fnExactTotalOf", fn := fun _ => fun
  | [d1, d2] => { results := [.lit (.bool false)], args := [d1, d2] }
  | _ => none }
def FnExactTotalOfWrongFalsely : Prop := fnExactTotalOfRow.holds Tryz.pinned (OpenSpec.ofChange fnExactTotalOfWrong)

/-- 'laws.FnExactIsHouse': WHATEVER THE INPUT: true; the input reads as it did. -/
def fnExactIsHouseSpec : ChangeSpec := { name := "fnExactIsHouse", fn := fun _ => fun
  | [d] => { results := [.lit (.bool true)], args := [d] }
  | _ => none }
def fnExactIsHouseRow : OpenClaim := { program := "ytppbkdpofmplaaagreat", sum := "19d144e7e7e64b69f105b9d140b96e4a8e74abf56c833923cbcca85e45f9f30d", func := "loop.example/g03003/laws.FnExactIsHouse", spec := "fnExactIsHouse", unfollowed := true, recurses := true, apart := false }
def FnExactIsHouseSaid : Prop := fnExactIsHouseRow.holds Tryz.pinned (OpenSpec.ofChange fnExactIsHouseSpec)

/-- ITS FALSE NEIGHBOUR: 'it returns false'. Refute it at one input. -/
def fnExactIsHouseWrong : ChangeSpec := { name := "fnExactIsHouse", fn := fun _ => fun
  | [d] => { results := [.lit (.bool false)], args := [d] }
  | _ => none }
def FnExactIsHouseWrongFalsely : Prop := fnExactIsHouseRow.holds Tryz.pinned (OpenSpec.ofChange fnExactIsHouseWrong)

/-- 'laws.FnExactStepTick': WHATEVER THE INPUT: true; the input reads as it did. -/
def fnExactStepTickSpec : ChangeSpec := { name := "fnExactStepTick", fn := fun _ => fun
  | [d1, d2] => { results := [.lit (.bool true)], args := [d1, d2] }
  | _ => none }
def fnExactStepTickRow : OpenClaim := { program := "ytppbkdpofmplaaagreat", sum := "19d144e7e7e64b69f105b9d140b96e4a8e74abf56c833923cbcca85e45f9f30d", func := "loop.example/g03003/laws.FnExactStepTick", spec := "fnExactStepTick", apart := false }
def FnExactStepTickSaid : Prop := fnExactStepTickRow.holds Tryz.pinned (OpenSpec.ofChange fnExactStepTickSpec)

/-- ITS FALSE NEIGHBOUR: 'it returns false'. Refute it at one input. -/
def fnExactStepTickWrong : ChangeSpec := { name := "fnExactStepTick", fn := fun _ => fun
  | [d1, d2] => { results := [.lit (.bool false)], args := [d1, d2] }
  | _ => none }
def FnExactStepTickWrongFalsely : Prop := fnExactStepTickRow.holds Tryz.pinned (OpenSpec.ofChange fnExactStepTickWrong)

/- THE SECOND FORM. 'bulk': how many values and letters a reading holds, each counted each time it is reached (what is shared counts as often as it is met; a slice's spare places count too). A statement '..UptoSaid' is the law's where the arguments, and the package variables that the reading takes, are together of bulk at most 1048576: NARROWER than '..Said'. Prove '..Said' where nothing that the law and all that it calls make is longer than what came in: it says more and counts as full. Else prove '..UptoSaid'. A law counts once. -/
mutual
def uptoBulk {H : Type} : DataW H → Nat
  | .lit (.string bytes) => bytes.length + 1
  | .lit _ => 1
  | .nil => 1
  | .ptr d => uptoBulk d + 1
  | .slice elems spare => uptoBulkAll elems + uptoBulkAll spare + 1
  | .agg parts => uptoBulkAll parts + 1
  | .iface _ d => uptoBulk d + 1
  | .map entries => uptoBulkEntries entries + 1
  | .held _ => 1
def uptoBulkAll {H : Type} : List (DataW H) → Nat
  | [] => 0
  | d :: r => uptoBulk d + uptoBulkAll r
def uptoBulkEntries {H : Type} : List (Lit × DataW H) → Nat
  | [] => 0
  | x :: r => uptoBulkEntry x + uptoBulkEntries r
def uptoBulkEntry {H : Type} : Lit × DataW H → Nat
  | (.string bytes, d) => bytes.length + uptoBulk d + 1
  | (_, d) => uptoBulk d + 1
 end
def uptoSmall : (H : Type) → List (DataW H) → Bool := fun _ ds => decide (uptoBulkAll ds ≤ 1048576)
def OpenSpec.upto (s : _root_.Go.ChangeSpec) : _root_.Go.OpenSpec := { _root_.Go.OpenSpec.ofChange s with cond := some uptoSmall }

/-- 'laws.FnExactPointsIn', WHERE WHAT IT READS IS OF BULK AT MOST 1048576: true; the input reads as it did. -/
def fnExactPointsInUptoRow : OpenClaim := { program := "ytppbkdpofmplaaagreat", sum := "19d144e7e7e64b69f105b9d140b96e4a8e74abf56c833923cbcca85e45f9f30d", func := "loop.example/g03003/laws.FnExactPointsIn", spec := "fnExactPointsIn", unfollowed := true, recurses := true, apart := false, narrowed := true }
def FnExactPointsInUptoSaid : Prop := fnExactPointsInUptoRow.holds Tryz.pinned (OpenSpec.upto fnExactPointsInSpec)

/-- 'laws.FnExactTotalOf', WHERE WHAT IT READS IS OF BULK AT MOST 1048576: true; the input reads as it did. -/
def fnExactTotalOfUptoRow : OpenClaim := { program := "ytppbkdpofmplaaagreat", sum := "19d144e7e7e64b69f105b9d140b96e4a8e74abf56c833923cbcca85e45f9f30d", func := "loop.example/g03003/laws.FnExactTotalOf", spec := "fnExactTotalOf", unfollowed := true, recurses := true, apart := false, narrowed := true }
def FnExactTotalOfUptoSaid : Prop := fnExactTotalOfUptoRow.holds Tryz.pinned (OpenSpec.upto fnExactTotalOfSpec)

/-- 'laws.FnExactIsHouse', WHERE WHAT IT READS IS OF BULK AT MOST 1048576: true; the input reads as it did. -/
def fnExactIsHouseUptoRow : OpenClaim := { program := "ytppbkdpofmplaaagreat", sum := "19d144e7e7e64b69f105b9d140b96e4a8e74abf56c833923cbcca85e45f9f30d", func := "loop.example/g03003/laws.FnExactIsHouse", spec := "fnExactIsHouse", unfollowed := true, recurses := true, apart := false, narrowed := true }
def FnExactIsHouseUptoSaid : Prop := fnExactIsHouseUptoRow.holds Tryz.pinned (OpenSpec.upto fnExactIsHouseSpec)

/-- 'laws.FnExactStepTick', WHERE WHAT IT READS IS OF BULK AT MOST 1048576: true; the input reads as it did. -/
def fnExactStepTickUptoRow : OpenClaim := { program := "ytppbkdpofmplaaagreat", sum := "19d144e7e7e64b69f105b9d140b96e4a8e74abf56c833923cbcca85e45f9f30d", func := "loop.example/g03003/laws.FnExactStepTick", spec := "fnExactStepTick", apart := false, narrowed := true }
def FnExactStepTickUptoSaid : Prop := fnExactStepTickUptoRow.holds Tryz.pinned (OpenSpec.upto fnExactStepTickSpec)

end Rows
end Go.Proofs.YtppbkdpofmplaaaGreat
