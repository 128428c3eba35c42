/- the law's walk -/
import Derived.Test.YtppbkdpofmplaaaGreatAvPn2PointsIn
import Derived.Test.YtppbkdpofmplaaaGreatAvPfPointsIn2
namespace Go.Proofs
open Go Go.Av
set_option maxRecDepth 100000
set_option maxHeartbeats 4000000
set_option linter.unusedVariables false
set_option linter.unusedSimpArgs false
namespace Lw
theorem lawPointsIn (x0 : Gx.House) (o0 : x0.ok) (x1 : Int) (o1 : Gx.inR x1) (x2 : Int) (o2 : Gx.inR x2) : Pure Tryz.prog 3 [DV.agg (Gx.House.enc x0), DV.one (D.i x1), DV.one (D.i x2)] (.one (.b true)) := l_FnExactPointsIn_ok 33554433 x0 x1 x2 (p_FnExactPointsIn (by omega) x0 o0 x1 x2)
end Lw
end Go.Proofs
