/- the law's walk -/
import Derived.Test.YtppbkdpofmplaabGreatAvPn2StepEnter
import Derived.Test.YtppbkdpofmplaabGreatAvPfStepEnter4
namespace Go.Proofs
open Go Go.Av
set_option maxRecDepth 100000
set_option maxHeartbeats 4000000
set_option linter.unusedVariables false
set_option linter.unusedSimpArgs false
namespace Lw
theorem lawStepEnter (x0 : Gx.House) (o0 : x0.ok) (x1 : Int) (o1 : Gx.inR x1) (x2 : Int) (o2 : Gx.inR x2) (x3 : List UInt8) (o3 : x3.length ≤ 9223372036854775807) : Pure Tryz.prog 5 [DV.agg (Gx.House.enc x0), DV.one (D.i x1), DV.one (D.i x2), DV.one (D.s x3)] (.one (.b true)) := l_FnExactStepEnter_ok 67108865 x0 x1 x2 x3 (p_FnExactStepEnter (by omega) x0 o0 x1 x2 x3)
end Lw
end Go.Proofs
