/- the law's walk -/
import Derived.Test.YtefbbjneleifjaaGreatAvPn1HardestIssue
import Derived.Test.YtefbbjneleifjaaGreatAvPfHardestIssue2
namespace Go.Proofs
open Go Go.Av
set_option maxRecDepth 100000
set_option maxHeartbeats 4000000
set_option linter.unusedVariables false
set_option linter.unusedSimpArgs false
namespace Lw
theorem lawHardestIssue (x0 : Gx.House) (o0 : x0.ok) : Pure Tryz.prog 5 [DV.agg (Gx.House.enc x0)] (.one (.b true)) := l_FnExactHardestIssue_ok 1048578 x0 (p_FnExactHardestIssue (by omega) x0 o0)
end Lw
end Go.Proofs
