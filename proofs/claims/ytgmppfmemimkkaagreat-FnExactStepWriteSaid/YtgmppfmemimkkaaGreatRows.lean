/-
  No cell of these rows narrows 'for every input' (looked for: loops, veiled, ifaces, maps, wideKeys, modest, calm, conditions, laid).
  DERIVED. THE GIVEN ROWS OF THIS SEAT. 2 by the template 'for every input the law returns true; each argument reads behind the call as it read before'; 0 by the template 'total and deterministic' (their statements: YtgmppfmemimkkaaGreatTotals.lean).
  GIVEN WITH THE SEED: the statements are not yours to turn. If you find one false, say at which input.
  Laid BY PROGRAM, IN A SANDBOX (cutbox-rows.mjs): the forced cells as the released guide's own fill.sh prints them over the translation 1600b6d2aaa1d9b9… (all of the seat's roots in one cut). By AI agents, Wed Nov 11 2026. No macro, syntax, notation, axiom, sorry.
-/
import Derived.Test.YtgmppfmemimkkaaGreatChecked
import GoSem.Claim
import GoSem.ClaimJoined
import GoSem.ClaimMapViews
import Derived.JoinedTies
import Derived.KernelRfl
namespace Go.Proofs.YtgmppfmemimkkaaGreat
/- THE CELL 'sum', in the pinned program and in every row, IS THE sha256 OF THE DUMP (.gsa) THAT YtgmppfmemimkkaaGreatProg.lean LOADS. Nothing in Lean hashes anything: it is a label: what it is worth is what the hold of that sum in a sandbox is worth. -/
noncomputable def Tryz.pinned : Pinned := { name := "ytgmppfmemimkkaagreat", sum := "1600b6d2aaa1d9b91bf7cc70790cbe597b8b48d80831f6f42130d605ef4778e3", checked := Tryz.checked }
namespace Rows
def none {H : Type} : Left H := { results := [], args := [] }

/-- 'laws.FnExactExampleHouse': WHATEVER THE INPUT: true; the input reads as it did. -/
def fnExactExampleHouseSpec : ChangeSpec := { name := "fnExactExampleHouse", fn := fun _ => fun
  | [] => { results := [.lit (.bool true)], args := [] }
  | _ => none }
def fnExactExampleHouseRow : OpenClaim := { program := "ytgmppfmemimkkaagreat", sum := "1600b6d2aaa1d9b91bf7cc70790cbe597b8b48d80831f6f42130d605ef4778e3", func := "loop.example/g03003/laws.FnExactExampleHouse", spec := "fnExactExampleHouse", unfollowed := true, recurses := true, apart := false }
def FnExactExampleHouseSaid : Prop := fnExactExampleHouseRow.holds Tryz.pinned (OpenSpec.ofChange fnExactExampleHouseSpec)

/-- ITS FALSE NEIGHBOUR: 'it returns false'. Refute it at one input. -/
def fnExactExampleHouseWrong : ChangeSpec := { name := "fnExactExampleHouse", fn := fun _ => fun
  | [] => { results := [.lit (.bool false)], args := [] }
  | _ => none }
def FnExactExampleHouseWrongFalsely : Prop := fnExactExampleHouseRow.holds Tryz.pinned (OpenSpec.ofChange fnExactExampleHouseWrong)

/-- 'laws.FnExactStepWrite': WHATEVER THE INPUT: true; the input reads as it did. -/
def fnExactStepWriteSpec : ChangeSpec := { name := "fnExactStepWrite", fn := fun _ => fun
  | [d1, d2, d3] => { results := [.lit (.bool true)], args := [d1, d2, d3] }
  | _ => none }
def fnExactStepWriteRow : OpenClaim := { program := "ytgmppfmemimkkaagreat", sum := "1600b6d2aaa1d9b91bf7cc70790cbe597b8b48d80831f6f42130d605ef4778e3", func := "loop.example/g03003/laws.FnExactStepWrite", spec := "fnExactStepWrite", unfollowed := true, recurses := true, apart := false }
def FnExactStepWriteSaid : Prop := fnExactStepWriteRow.holds Tryz.pinned (OpenSpec.ofChange fnExactStepWriteSpec)

/-- ITS FALSE NEIGHBOUR: 'it returns false'. Refute it at one input. -/
def fnExactStepWriteWrong : ChangeSpec := { name := "fnExactStepWrite", fn := fun _ => fun
  | [d1, d2, d3] => { results := [.lit (.bool false)], args := [d1, d2, d3] }
  | _ => none }
def FnExactStepWriteWrongFalsely : Prop := fnExactStepWriteRow.holds Tryz.pinned (OpenSpec.ofChange fnExactStepWriteWrong)

/- THE SECOND FORM. 'bulk': how many values and letters a reading holds, each counted each time it is reached (what is shared counts as often as it is met; a slice's spare places count too). A statement '..UptoSaid' is the law's where the arguments, and the package variables that the reading takes, are together of bulk at most 1048576: NARROWER than '..Said'. Prove '..Said' where nothing that the law and all that it calls make is longer than what came in: it says more and counts as full. Else prove '..UptoSaid'. A law counts once. -/
mutual
def uptoBulk {H : Type} : DataW H → Nat
  | .lit (.string bytes) => bytes.length + 1
  | .lit _ => 1
  | .nil => 1
  | .ptr d => uptoBulk d + 1
  | .slice elems spare => uptoBulkAll elems + uptoBulkAll spare + 1
  | .agg parts => uptoBulkAll parts + 1
  | .iface _ d => uptoBulk d + 1
  | .map entries => uptoBulkEntries entries + 1
  | .held _ => 1
def uptoBulkAll {H : Type} : List (DataW H) → Nat
  | [] => 0
  | d :: r => uptoBulk d + uptoBulkAll r
def uptoBulkEntries {H : Type} : List (Lit × DataW H) → Nat
  | [] => 0
  | x :: r => uptoBulkEntry x + uptoBulkEntries r
def uptoBulkEntry {H : Type} : Lit × DataW H → Nat
  | (.string bytes, d) => bytes.length + uptoBulk d + 1
  | (_, d) => uptoBulk d + 1
 end
def uptoSmall : (H : Type) → List (DataW H) → Bool := fun _ ds => decide (uptoBulkAll ds ≤ 1048576)
def OpenSpec.upto (s : _root_.Go.ChangeSpec) : _root_.Go.OpenSpec := { _root_.Go.OpenSpec.ofChange s with cond := some uptoSmall }

/-- 'laws.FnExactExampleHouse', WHERE WHAT IT READS IS OF BULK AT MOST 1048576: true; the input reads as it did. -/
def fnExactExampleHouseUptoRow : OpenClaim := { program := "ytgmppfmemimkkaagreat", sum := "1600b6d2aaa1d9b91bf7cc70790cbe597b8b48d80831f6f42130d605ef4778e3", func := "loop.example/g03003/laws.FnExactExampleHouse", spec := "fnExactExampleHouse", unfollowed := true, recurses := true, apart := false, narrowed := true }
def FnExactExampleHouseUptoSaid : Prop := fnExactExampleHouseUptoRow.holds Tryz.pinned (OpenSpec.upto fnExactExampleHouseSpec)

/-- 'laws.FnExactStepWrite', WHERE WHAT IT READS IS OF BULK AT MOST 1048576: true; the input reads as it did. -/
def fnExactStepWriteUptoRow : OpenClaim := { program := "ytgmppfmemimkkaagreat", sum := "1600b6d2aaa1d9b91bf7cc70790cbe597b8b48d80831f6f42130d605ef4778e3", func := "loop.example/g03003/laws.FnExactStepWrite", spec := "fnExactStepWrite", unfollowed := true, recurses := true, apart := false, narrowed := true }
def FnExactStepWriteUptoSaid : Prop := fnExactStepWriteUptoRow.holds Tryz.pinned (OpenSpec.upto fnExactStepWriteSpec)

end Rows
end Go.Proofs.YtgmppfmemimkkaaGreat
