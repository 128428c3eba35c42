/-
  No cell of these rows narrows 'for every input' (looked for: loops, veiled, ifaces, maps, wideKeys, modest, calm, conditions, laid).
  DERIVED. THE GIVEN ROWS OF THIS SEAT. 6 by the template 'for every input the law returns true; each argument reads behind the call as it read before'; 0 by the template 'total and deterministic' (their statements: YtfagjlbokkhpdaaTotals.lean).
  GIVEN WITH THE SEED: the statements are not yours to turn. If you find one false, say at which input.
  Laid BY PROGRAM, IN A SANDBOX (cutbox-rows.mjs): the forced cells as the released guide's own fill.sh prints them over the translation 2a327f2b9a5c96c0… (all of the seat's roots in one cut). By AI agents, Wed Nov 11 2026. No macro, syntax, notation, axiom, sorry.
-/
import Derived.Test.YtfagjlbokkhpdaaChecked
import GoSem.Claim
import GoSem.ClaimJoined
import GoSem.ClaimMapViews
import Derived.JoinedTies
import Derived.KernelRfl
namespace Go.Proofs.Ytfagjlbokkhpdaa
/- THE CELL 'sum', in the pinned program and in every row, IS THE sha256 OF THE DUMP (.gsa) THAT YtfagjlbokkhpdaaProg.lean LOADS. Nothing in Lean hashes anything: it is a label: what it is worth is what the hold of that sum in a sandbox is worth. -/
noncomputable def Try.pinned : Pinned := { name := "ytfagjlbokkhpdaa", sum := "2a327f2b9a5c96c0bcfe55633011e6a1caf6b2967504cf77595244b9cb35ab3c", checked := Try.checked }
namespace Rows
def none {H : Type} : Left H := { results := [], args := [] }

/-- 'laws.FnExactEventName': WHATEVER THE INPUT: true; the input reads as it did. -/
def fnExactEventNameSpec : ChangeSpec := { name := "fnExactEventName", fn := fun _ => fun
  | [d] => { results := [.lit (.bool true)], args := [d] }
  | _ => none }
def fnExactEventNameRow : OpenClaim := { program := "ytfagjlbokkhpdaa", sum := "2a327f2b9a5c96c0bcfe55633011e6a1caf6b2967504cf77595244b9cb35ab3c", func := "loop.example/g03003/laws.FnExactEventName", spec := "fnExactEventName", apart := false }
def FnExactEventNameSaid : Prop := fnExactEventNameRow.holds Try.pinned (OpenSpec.ofChange fnExactEventNameSpec)

/-- ITS FALSE NEIGHBOUR: 'it returns false'. Refute it at one input. -/
def fnExactEventNameWrong : ChangeSpec := { name := "fnExactEventName", fn := fun _ => fun
  | [d] => { results := [.lit (.bool false)], args := [d] }
  | _ => none }
def FnExactEventNameWrongFalsely : Prop := fnExactEventNameRow.holds Try.pinned (OpenSpec.ofChange fnExactEventNameWrong)

/-- 'laws.FnExactExampleWords': WHATEVER THE INPUT: true; the input reads as it did. -/
def fnExactExampleWordsSpec : ChangeSpec := { name := "fnExactExampleWords", fn := fun _ => fun
  | [] => { results := [.lit (.bool true)], args := [] }
  | _ => none }
def fnExactExampleWordsRow : OpenClaim := { program := "ytfagjlbokkhpdaa", sum := "2a327f2b9a5c96c0bcfe55633011e6a1caf6b2967504cf77595244b9cb35ab3c", func := "loop.example/g03003/laws.FnExactExampleWords", spec := "fnExactExampleWords", apart := false }
def FnExactExampleWordsSaid : Prop := fnExactExampleWordsRow.holds Try.pinned (OpenSpec.ofChange fnExactExampleWordsSpec)

/-- ITS FALSE NEIGHBOUR: 'it returns false'. Refute it at one input. -/
def fnExactExampleWordsWrong : ChangeSpec := { name := "fnExactExampleWords", fn := fun _ => fun
  | [] => { results := [.lit (.bool false)], args := [] }
  | _ => none }
def FnExactExampleWordsWrongFalsely : Prop := fnExactExampleWordsRow.holds Try.pinned (OpenSpec.ofChange fnExactExampleWordsWrong)

/-- 'laws.FnExactFormatWords': WHATEVER THE INPUT: true; the input reads as it did. -/
def fnExactFormatWordsSpec : ChangeSpec := { name := "fnExactFormatWords", fn := fun _ => fun
  | [d] => { results := [.lit (.bool true)], args := [d] }
  | _ => none }
def fnExactFormatWordsRow : OpenClaim := { program := "ytfagjlbokkhpdaa", sum := "2a327f2b9a5c96c0bcfe55633011e6a1caf6b2967504cf77595244b9cb35ab3c", func := "loop.example/g03003/laws.FnExactFormatWords", spec := "fnExactFormatWords", inPlace := ["internal/abi.NoEscape", "internal/bytealg.MakeNoZero"], apart := false }
def FnExactFormatWordsSaid : Prop := fnExactFormatWordsRow.holds Try.pinned (OpenSpec.ofChange fnExactFormatWordsSpec)

/-- ITS FALSE NEIGHBOUR: 'it returns false'. Refute it at one input. -/
def fnExactFormatWordsWrong : ChangeSpec := { name := "fnExactFormatWords", fn := fun _ => fun
  | [d] => { results := [.lit (.bool false)], args := [d] }
  | _ => none }
def FnExactFormatWordsWrongFalsely : Prop := fnExactFormatWordsRow.holds Try.pinned (OpenSpec.ofChange fnExactFormatWordsWrong)

/-- 'laws.FnExactFormatDomains': WHATEVER THE INPUT: true; the input reads as it did. -/
def fnExactFormatDomainsSpec : ChangeSpec := { name := "fnExactFormatDomains", fn := fun _ => fun
  | [d] => { results := [.lit (.bool true)], args := [d] }
  | _ => none }
def fnExactFormatDomainsRow : OpenClaim := { program := "ytfagjlbokkhpdaa", sum := "2a327f2b9a5c96c0bcfe55633011e6a1caf6b2967504cf77595244b9cb35ab3c", func := "loop.example/g03003/laws.FnExactFormatDomains", spec := "fnExactFormatDomains", inPlace := ["internal/abi.NoEscape", "internal/bytealg.MakeNoZero"], apart := false }
def FnExactFormatDomainsSaid : Prop := fnExactFormatDomainsRow.holds Try.pinned (OpenSpec.ofChange fnExactFormatDomainsSpec)

/-- ITS FALSE NEIGHBOUR: 'it returns false'. Refute it at one input. -/
def fnExactFormatDomainsWrong : ChangeSpec := { name := "fnExactFormatDomains", fn := fun _ => fun
  | [d] => { results := [.lit (.bool false)], args := [d] }
  | _ => none }
def FnExactFormatDomainsWrongFalsely : Prop := fnExactFormatDomainsRow.holds Try.pinned (OpenSpec.ofChange fnExactFormatDomainsWrong)

/-- 'laws.FnExactFormatFill': WHATEVER THE INPUT: true; the input reads as it did. -/
def fnExactFormatFillSpec : ChangeSpec := { name := "fnExactFormatFill", fn := fun _ => fun
  | [d1, d2] => { results := [.lit (.bool true)], args := [d1, d2] }
  | _ => none }
def fnExactFormatFillRow : OpenClaim := { program := "ytfagjlbokkhpdaa", sum := "2a327f2b9a5c96c0bcfe55633011e6a1caf6b2967504cf77595244b9cb35ab3c", func := "loop.example/g03003/laws.FnExactFormatFill", spec := "fnExactFormatFill", inPlace := ["internal/abi.NoEscape", "internal/bytealg.MakeNoZero"], apart := false }
def FnExactFormatFillSaid : Prop := fnExactFormatFillRow.holds Try.pinned (OpenSpec.ofChange fnExactFormatFillSpec)

/-- ITS FALSE NEIGHBOUR: 'it returns false'. Refute it at one input. -/
def fnExactFormatFillWrong : ChangeSpec := { name := "fnExactFormatFill", fn := fun _ => fun
  | [d1, d2] => { results := [.lit (.bool false)], args := [d1, d2] }
  | _ => none }
def FnExactFormatFillWrongFalsely : Prop := fnExactFormatFillRow.holds Try.pinned (OpenSpec.ofChange fnExactFormatFillWrong)

/-- 'laws.FnExactCountEvents': WHATEVER THE INPUT: true; the input reads as it did. -/
def fnExactCountEventsSpec : ChangeSpec := { name := "fnExactCountEvents", fn := fun _ => fun
  | [d1, d2] => { results := [.lit (.bool true)], args := [d1, d2] }
  | _ => none }
def fnExactCountEventsRow : OpenClaim := { program := "ytfagjlbokkhpdaa", sum := "2a327f2b9a5c96c0bcfe55633011e6a1caf6b2967504cf77595244b9cb35ab3c", func := "loop.example/g03003/laws.FnExactCountEvents", spec := "fnExactCountEvents", apart := false }
def FnExactCountEventsSaid : Prop := fnExactCountEventsRow.holds Try.pinned (OpenSpec.ofChange fnExactCountEventsSpec)

/-- ITS FALSE NEIGHBOUR: 'it returns false'. Refute it at one input. -/
def fnExactCountEventsWrong : ChangeSpec := { name := "fnExactCountEvents", fn := fun _ => fun
  | [d1, d2] => { results := [.lit (.bool false)], args := [d1, d2] }
  | _ => none }
def FnExactCountEventsWrongFalsely : Prop := fnExactCountEventsRow.holds Try.pinned (OpenSpec.ofChange fnExactCountEventsWrong)

/- THE SECOND FORM. 'bulk': how many values and letters a reading holds, each counted each time it is reached (what is shared counts as often as it is met; a slice's spare places count too). A statement '..UptoSaid' is the law's where the arguments, and the package variables that the reading takes, are together of bulk at most 1048576: NARROWER than '..Said'. Prove '..Said' where nothing that the law and all that it calls make is longer than what came in: it says more and counts as full. Else prove '..UptoSaid'. A law counts once. -/
mutual
def uptoBulk {H : Type} : DataW H → Nat
  | .lit (.string bytes) => bytes.length + 1
  | .lit _ => 1
  | .nil => 1
  | .ptr d => uptoBulk d + 1
  | .slice elems spare => uptoBulkAll elems + uptoBulkAll spare + 1
  | .agg parts => uptoBulkAll parts + 1
  | .iface _ d => uptoBulk d + 1
  | .map entries => uptoBulkEntries entries + 1
  | .held _ => 1
def uptoBulkAll {H : Type} : List (DataW H) → Nat
  | [] => 0
  | d :: r => uptoBulk d + uptoBulkAll r
def uptoBulkEntries {H : Type} : List (Lit × DataW H) → Nat
  | [] => 0
  | x :: r => uptoBulkEntry x + uptoBulkEntries r
def uptoBulkEntry {H : Type} : Lit × DataW H → Nat
  | (.string bytes, d) => bytes.length + uptoBulk d + 1
  | (_, d) => uptoBulk d + 1
 end
def uptoSmall : (H : Type) → List (DataW H) → Bool := fun _ ds => decide (uptoBulkAll ds ≤ 1048576)
def OpenSpec.upto (s : _root_.Go.ChangeSpec) : _root_.Go.OpenSpec := { _root_.Go.OpenSpec.ofChange s with cond := some uptoSmall }

/-- 'laws.FnExactEventName', WHERE WHAT IT READS IS OF BULK AT MOST 1048576: true; the input reads as it did. -/
def fnExactEventNameUptoRow : OpenClaim := { program := "ytfagjlbokkhpdaa", sum := "2a327f2b9a5c96c0bcfe55633011e6a1caf6b2967504cf77595244b9cb35ab3c", func := "loop.example/g03003/laws.FnExactEventName", spec := "fnExactEventName", apart := false, narrowed := true }
def FnExactEventNameUptoSaid : Prop := fnExactEventNameUptoRow.holds Try.pinned (OpenSpec.upto fnExactEventNameSpec)

/-- 'laws.FnExactExampleWords', WHERE WHAT IT READS IS OF BULK AT MOST 1048576: true; the input reads as it did. -/
def fnExactExampleWordsUptoRow : OpenClaim := { program := "ytfagjlbokkhpdaa", sum := "2a327f2b9a5c96c0bcfe55633011e6a1caf6b2967504cf77595244b9cb35ab3c", func := "loop.example/g03003/laws.FnExactExampleWords", spec := "fnExactExampleWords", apart := false, narrowed := true }
def FnExactExampleWordsUptoSaid : Prop := fnExactExampleWordsUptoRow.holds Try.pinned (OpenSpec.upto fnExactExampleWordsSpec)

/-- 'laws.FnExactFormatWords', WHERE WHAT IT READS IS OF BULK AT MOST 1048576: true; the input reads as it did. -/
def fnExactFormatWordsUptoRow : OpenClaim := { program := "ytfagjlbokkhpdaa", sum := "2a327f2b9a5c96c0bcfe55633011e6a1caf6b2967504cf77595244b9cb35ab3c", func := "loop.example/g03003/laws.FnExactFormatWords", spec := "fnExactFormatWords", inPlace := ["internal/abi.NoEscape", "internal/bytealg.MakeNoZero"], apart := false, narrowed := true }
def FnExactFormatWordsUptoSaid : Prop := fnExactFormatWordsUptoRow.holds Try.pinned (OpenSpec.upto fnExactFormatWordsSpec)

/-- 'laws.FnExactFormatDomains', WHERE WHAT IT READS IS OF BULK AT MOST 1048576: true; the input reads as it did. -/
def fnExactFormatDomainsUptoRow : OpenClaim := { program := "ytfagjlbokkhpdaa", sum := "2a327f2b9a5c96c0bcfe55633011e6a1caf6b2967504cf77595244b9cb35ab3c", func := "loop.example/g03003/laws.FnExactFormatDomains", spec := "fnExactFormatDomains", inPlace := ["internal/abi.NoEscape", "internal/bytealg.MakeNoZero"], apart := false, narrowed := true }
def FnExactFormatDomainsUptoSaid : Prop := fnExactFormatDomainsUptoRow.holds Try.pinned (OpenSpec.upto fnExactFormatDomainsSpec)

/-- 'laws.FnExactFormatFill', WHERE WHAT IT READS IS OF BULK AT MOST 1048576: true; the input reads as it did. -/
def fnExactFormatFillUptoRow : OpenClaim := { program := "ytfagjlbokkhpdaa", sum := "2a327f2b9a5c96c0bcfe55633011e6a1caf6b2967504cf77595244b9cb35ab3c", func := "loop.example/g03003/laws.FnExactFormatFill", spec := "fnExactFormatFill", inPlace := ["internal/abi.NoEscape", "internal/bytealg.MakeNoZero"], apart := false, narrowed := true }
def FnExactFormatFillUptoSaid : Prop := fnExactFormatFillUptoRow.holds Try.pinned (OpenSpec.upto fnExactFormatFillSpec)

/-- 'laws.FnExactCountEvents', WHERE WHAT IT READS IS OF BULK AT MOST 1048576: true; the input reads as it did. -/
def fnExactCountEventsUptoRow : OpenClaim := { program := "ytfagjlbokkhpdaa", sum := "2a327f2b9a5c96c0bcfe55633011e6a1caf6b2967504cf77595244b9cb35ab3c", func := "loop.example/g03003/laws.FnExactCountEvents", spec := "fnExactCountEvents", apart := false, narrowed := true }
def FnExactCountEventsUptoSaid : Prop := fnExactCountEventsUptoRow.holds Try.pinned (OpenSpec.upto fnExactCountEventsSpec)

end Rows
end Go.Proofs.Ytfagjlbokkhpdaa
