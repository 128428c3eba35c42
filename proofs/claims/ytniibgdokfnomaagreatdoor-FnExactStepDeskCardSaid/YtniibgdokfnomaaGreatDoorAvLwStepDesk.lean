/- the law's walk -/
import Derived.Test.YtniibgdokfnomaaGreatDoorAvPn1StepDesk
import Derived.Test.YtniibgdokfnomaaGreatDoorAvPfStepDesk4
namespace Go.Proofs
open Go Go.Av
set_option maxRecDepth 100000
set_option maxHeartbeats 40000000
set_option linter.unusedVariables false
set_option linter.unusedSimpArgs false
namespace Lw
theorem lawStepDesk (x0 : Gx.House) (o0 : x0.ok) (x1 : Gx.Grid) (o1 : x1.ok) : Pure Tryz.prog 4 [DV.agg (Gx.House.enc x0), DV.agg (Gx.Grid.enc x1)] (.one (.b true)) := l_FnExactStepDesk_ok 67108865 x0 x1 (p_FnExactStepDesk (by omega) x0 o0 x1 o1)
end Lw
end Go.Proofs
