/- The program's ExampleWords and the reference's ExampleWords give the same words in memory of their own; there are no arguments and no conditions. -/
import Derived.Test.YtfagjlbokkhpdaaPFnExactExampleWordsx1
namespace Go.Proofs.Ytfagjlbokkhpdaa.Pure
open Go.RowKit Go.Proofs.Ytfagjlbokkhpdaa.PFnExactExampleWords Go.Proofs.YtfagjlbokkhpdaaW.PrintWords Go.Proofs.YtfagjlbokkhpdaaW.PrintLast

theorem FnExactExampleWords : laws_FnExactExampleWords.Pure := by
  exact ⟨30, by decide +kernel⟩

end Go.Proofs.Ytfagjlbokkhpdaa.Pure
