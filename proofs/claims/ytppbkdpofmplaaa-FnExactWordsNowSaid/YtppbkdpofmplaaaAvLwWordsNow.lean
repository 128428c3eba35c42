/- the law's walk -/
import Derived.Test.YtppbkdpofmplaaaAvPn0WordsNow
import Derived.Test.YtppbkdpofmplaaaAvPfWordsNow1
namespace Go.Proofs
open Go Go.Av
set_option maxRecDepth 100000
set_option maxHeartbeats 4000000
set_option linter.unusedVariables false
set_option linter.unusedSimpArgs false
namespace Lw
theorem lawWordsNow (x0 : Gx.House) (o0 : x0.ok) : Pure Try.prog 4 [DV.agg (Gx.House.enc x0)] (.one (.b true)) := l_FnExactWordsNow_ok 67108865 x0 (p_FnExactWordsNow (by omega) x0 o0)
end Lw
end Go.Proofs
