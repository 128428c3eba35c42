/- the law's walk -/
import Derived.Test.YtniibgdokfnomaaGreatAvPn0IsRecorded
import Derived.Test.YtniibgdokfnomaaGreatAvPfIsRecorded1
namespace Go.Proofs
open Go Go.Av
set_option maxRecDepth 100000
set_option maxHeartbeats 40000000
set_option linter.unusedVariables false
set_option linter.unusedSimpArgs false
namespace Lw
theorem lawIsRecorded (x0:Gx.House) (o0:x0.ok):Pure Tryz.prog 3 [DV.agg (Gx.House.enc x0)] (.one (.b true)):=l_FnExactIsRecorded_ok 67108865 x0 (p_FnExactIsRecorded (by omega) x0 o0)
end Lw
end Go.Proofs
