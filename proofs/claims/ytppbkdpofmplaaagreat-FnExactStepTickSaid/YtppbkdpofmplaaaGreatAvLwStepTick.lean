/- the law's walk -/
import Derived.Test.YtppbkdpofmplaaaGreatAvPn0StepTick
import Derived.Test.YtppbkdpofmplaaaGreatAvPfStepTick3
namespace Go.Proofs
open Go Go.Av
set_option maxRecDepth 100000
set_option maxHeartbeats 4000000
set_option linter.unusedVariables false
set_option linter.unusedSimpArgs false
namespace Lw
theorem lawStepTick (x0 : Gx.House) (o0 : x0.ok) (x1 : Int) (o1 : Gx.inR x1) : Pure Tryz.prog 6 [DV.agg (Gx.House.enc x0), DV.one (D.i x1)] (.one (.b true)) := l_FnExactStepTick_ok 67108865 x0 x1 (p_FnExactStepTick (by omega) x0 o0 x1)
end Lw
end Go.Proofs
