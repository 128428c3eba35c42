/-
  No cell of these rows narrows 'for every input' (looked for: loops, veiled, ifaces, maps, wideKeys, modest, calm, conditions, laid).
  DERIVED. THE GIVEN ROWS OF THIS SEAT. 3 by the template 'for every input the law returns true; each argument reads behind the call as it read before'; 0 by the template 'total and deterministic' (their statements: YtndnhlfdkhcpnaaTotals.lean).
  GIVEN WITH THE SEED: the statements are not yours to turn. If you find one false, say at which input.
  Laid BY PROGRAM, IN A SANDBOX (cutbox-rows.mjs): the forced cells as the released guide's own fill.sh prints them over the translation 86b7568382ae37de… (all of the seat's roots in one cut). By AI agents, Wed Nov 11 2026. No macro, syntax, notation, axiom, sorry.
-/
import Derived.Test.YtndnhlfdkhcpnaaChecked
import GoSem.Claim
import GoSem.ClaimJoined
import GoSem.ClaimMapViews
import Derived.JoinedTies
import Derived.KernelRfl
namespace Go.Proofs.Ytndnhlfdkhcpnaa
/- THE CELL 'sum', in the pinned program and in every row, IS THE sha256 OF THE DUMP (.gsa) THAT YtndnhlfdkhcpnaaProg.lean LOADS. Nothing in Lean hashes anything: it is a label: what it is worth is what the hold of that sum in a sandbox is worth. -/
noncomputable def Try.pinned : Pinned := { name := "ytndnhlfdkhcpnaa", sum := "86b7568382ae37def04457c2c86bb64a82c72d8c1f20b53171d0280e8eeef3ac", checked := Try.checked }
namespace Rows
def none {H : Type} : Left H := { results := [], args := [] }

/-- 'laws.FnExactFormatFill': WHATEVER THE INPUT: true; the input reads as it did. -/
def fnExactFormatFillSpec : ChangeSpec := { name := "fnExactFormatFill", fn := fun _ => fun
  | [d1, d2] => { results := [.lit (.bool true)], args := [d1, d2] }
  | _ => none }
def fnExactFormatFillRow : OpenClaim := { program := "ytndnhlfdkhcpnaa", sum := "86b7568382ae37def04457c2c86bb64a82c72d8c1f20b53171d0280e8eeef3ac", func := "loop.example/g03003/laws.FnExactFormatFill", spec := "fnExactFormatFill", inPlace := ["internal/abi.NoEscape", "internal/bytealg.MakeNoZero"], apart := false }
def FnExactFormatFillSaid : Prop := fnExactFormatFillRow.holds Try.pinned (OpenSpec.ofChange fnExactFormatFillSpec)

/-- ITS FALSE NEIGHBOUR: 'it returns false'. Refute it at one input. -/
def fnExactFormatFillWrong : ChangeSpec := { name := "fnExactFormatFill", fn := fun _ => fun
  | [d1, d2] => { results := [.lit (.bool false)], args := [d1, d2] }
  | _ => none }
def FnExactFormatFillWrongFalsely : Prop := fnExactFormatFillRow.holds Try.pinned (OpenSpec.ofChange fnExactFormatFillWrong)

/-- 'laws.FnExactCountEntries': WHATEVER THE INPUT: true; the input reads as it did. -/
def fnExactCountEntriesSpec : ChangeSpec := { name := "fnExactCountEntries", fn := fun _ => fun
  | [d1, d2] => { results := [.lit (.bool true)], args := [d1, d2] }
  | _ => none }
def fnExactCountEntriesRow : OpenClaim := { program := "ytndnhlfdkhcpnaa", sum := "86b7568382ae37def04457c2c86bb64a82c72d8c1f20b53171d0280e8eeef3ac", func := "loop.example/g03003/laws.FnExactCountEntries", spec := "fnExactCountEntries", apart := false }
def FnExactCountEntriesSaid : Prop := fnExactCountEntriesRow.holds Try.pinned (OpenSpec.ofChange fnExactCountEntriesSpec)

/-- ITS FALSE NEIGHBOUR: 'it returns false'. Refute it at one input. -/
def fnExactCountEntriesWrong : ChangeSpec := { name := "fnExactCountEntries", fn := fun _ => fun
  | [d1, d2] => { results := [.lit (.bool false)], args := [d1, d2] }
  | _ => none }
def FnExactCountEntriesWrongFalsely : Prop := fnExactCountEntriesRow.holds Try.pinned (OpenSpec.ofChange fnExactCountEntriesWrong)

/-- 'laws.FnExactIsGapKept': WHATEVER THE INPUT: true; the input reads as it did. -/
def fnExactIsGapKeptSpec : ChangeSpec := { name := "fnExactIsGapKept", fn := fun _ => fun
  | [d] => { results := [.lit (.bool true)], args := [d] }
  | _ => none }
def fnExactIsGapKeptRow : OpenClaim := { program := "ytndnhlfdkhcpnaa", sum := "86b7568382ae37def04457c2c86bb64a82c72d8c1f20b53171d0280e8eeef3ac", func := "loop.example/g03003/laws.FnExactIsGapKept", spec := "fnExactIsGapKept", unfollowed := true, recurses := true, apart := false }
def FnExactIsGapKeptSaid : Prop := fnExactIsGapKeptRow.holds Try.pinned (OpenSpec.ofChange fnExactIsGapKeptSpec)

/-- ITS FALSE NEIGHBOUR: 'it returns false'. Refute it at one input. -/
def fnExactIsGapKeptWrong : ChangeSpec := { name := "fnExactIsGapKept", fn := fun _ => fun
  | [d] => { results := [.lit (.bool false)], args := [d] }
  | _ => none }
def FnExactIsGapKeptWrongFalsely : Prop := fnExactIsGapKeptRow.holds Try.pinned (OpenSpec.ofChange fnExactIsGapKeptWrong)

/- THE SECOND FORM. 'bulk': how many values and letters a reading holds, each counted each time it is reached (what is shared counts as often as it is met; a slice's spare places count too). A statement '..UptoSaid' is the law's where the arguments, and the package variables that the reading takes, are together of bulk at most 1048576: NARROWER than '..Said'. Prove '..Said' where nothing that the law and all that it calls make is longer than what came in: it says more and counts as full. Else prove '..UptoSaid'. A law counts once. -/
mutual
def uptoBulk {H : Type} : DataW H → Nat
  | .lit (.string bytes) => bytes.length + 1
  | .lit _ => 1
  | .nil => 1
  | .ptr d => uptoBulk d + 1
  | .slice elems spare => uptoBulkAll elems + uptoBulkAll spare + 1
  | .agg parts => uptoBulkAll parts + 1
  | .iface _ d => uptoBulk d + 1
  | .map entries => uptoBulkEntries entries + 1
  | .held _ => 1
def uptoBulkAll {H : Type} : List (DataW H) → Nat
  | [] => 0
  | d :: r => uptoBulk d + uptoBulkAll r
def uptoBulkEntries {H : Type} : List (Lit × DataW H) → Nat
  | [] => 0
  | x :: r => uptoBulkEntry x + uptoBulkEntries r
def uptoBulkEntry {H : Type} : Lit × DataW H → Nat
  | (.string bytes, d) => bytes.length + uptoBulk d + 1
  | (_, d) => uptoBulk d + 1
 end
def uptoSmall : (H : Type) → List (DataW H) → Bool := fun _ ds => decide (uptoBulkAll ds ≤ 1048576)
def OpenSpec.upto (s : _root_.Go.ChangeSpec) : _root_.Go.OpenSpec := { _root_.Go.OpenSpec.ofChange s with cond := some uptoSmall }

/-- 'laws.FnExactFormatFill', WHERE WHAT IT READS IS OF BULK AT MOST 1048576: true; the input reads as it did. -/
def fnExactFormatFillUptoRow : OpenClaim := { program := "ytndnhlfdkhcpnaa", sum := "86b7568382ae37def04457c2c86bb64a82c72d8c1f20b53171d0280e8eeef3ac", func := "loop.example/g03003/laws.FnExactFormatFill", spec := "fnExactFormatFill", inPlace := ["internal/abi.NoEscape", "internal/bytealg.MakeNoZero"], apart := false, narrowed := true }
def FnExactFormatFillUptoSaid : Prop := fnExactFormatFillUptoRow.holds Try.pinned (OpenSpec.upto fnExactFormatFillSpec)

/-- 'laws.FnExactCountEntries', WHERE WHAT IT READS IS OF BULK AT MOST 1048576: true; the input reads as it did. -/
def fnExactCountEntriesUptoRow : OpenClaim := { program := "ytndnhlfdkhcpnaa", sum := "86b7568382ae37def04457c2c86bb64a82c72d8c1f20b53171d0280e8eeef3ac", func := "loop.example/g03003/laws.FnExactCountEntries", spec := "fnExactCountEntries", apart := false, narrowed := true }
def FnExactCountEntriesUptoSaid : Prop := fnExactCountEntriesUptoRow.holds Try.pinned (OpenSpec.upto fnExactCountEntriesSpec)

/-- 'laws.FnExactIsGapKept', WHERE WHAT IT READS IS OF BULK AT MOST 1048576: true; the input reads as it did. -/
def fnExactIsGapKeptUptoRow : OpenClaim := { program := "ytndnhlfdkhcpnaa", sum := "86b7568382ae37def04457c2c86bb64a82c72d8c1f20b53171d0280e8eeef3ac", func := "loop.example/g03003/laws.FnExactIsGapKept", spec := "fnExactIsGapKept", unfollowed := true, recurses := true, apart := false, narrowed := true }
def FnExactIsGapKeptUptoSaid : Prop := fnExactIsGapKeptUptoRow.holds Try.pinned (OpenSpec.upto fnExactIsGapKeptSpec)

end Rows
end Go.Proofs.Ytndnhlfdkhcpnaa
