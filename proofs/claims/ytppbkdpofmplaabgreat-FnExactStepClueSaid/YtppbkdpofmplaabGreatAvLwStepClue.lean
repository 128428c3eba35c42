/- the law's walk -/
import Derived.Test.YtppbkdpofmplaabGreatAvPn1StepClue
import Derived.Test.YtppbkdpofmplaabGreatAvPfStepClue4
namespace Go.Proofs
open Go Go.Av
set_option maxRecDepth 100000
set_option maxHeartbeats 4000000
set_option linter.unusedVariables false
set_option linter.unusedSimpArgs false
namespace Lw
theorem lawStepClue (x0 : Gx.House) (o0 : x0.ok) (x1 : Int) (o1 : Gx.inR x1) (x2 : Gx.Clue) (o2 : x2.ok) : Pure Tryz.prog 4 [DV.agg (Gx.House.enc x0), DV.one (D.i x1), DV.agg (Gx.Clue.enc x2)] (.one (.b true)) := l_FnExactStepClue_ok 67108865 x0 x1 x2 (p_FnExactStepClue (by omega) x0 o0 x1 x2 o2)
end Lw
end Go.Proofs
