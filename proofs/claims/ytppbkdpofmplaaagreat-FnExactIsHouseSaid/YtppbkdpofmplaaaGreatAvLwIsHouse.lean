/- the law's walk -/
import Derived.Test.YtppbkdpofmplaaaGreatAvPn2IsHouse
import Derived.Test.YtppbkdpofmplaaaGreatAvPfIsHouse3
namespace Go.Proofs
open Go Go.Av
set_option maxRecDepth 100000
set_option maxHeartbeats 4000000
set_option linter.unusedVariables false
set_option linter.unusedSimpArgs false
namespace Lw
theorem lawIsHouse (x0 : Gx.House) (o0 : x0.ok) : Pure Tryz.prog 5 [DV.agg (Gx.House.enc x0)] (.one (.b true)) := l_FnExactIsHouse_ok 33554433 x0 (p_FnExactIsHouse (by omega) x0 o0)
end Lw
end Go.Proofs
