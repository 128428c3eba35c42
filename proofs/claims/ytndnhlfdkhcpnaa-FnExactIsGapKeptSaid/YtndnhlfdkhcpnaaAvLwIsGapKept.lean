/- the law's walk -/
import Derived.Test.YtndnhlfdkhcpnaaAvIsGapKeptxIsGapKept
import Derived.Test.YtndnhlfdkhcpnaaAvPfIsGapKept1
namespace Go.Proofs
open Go Go.Av
set_option maxRecDepth 100000
set_option maxHeartbeats 4000000
set_option linter.unusedVariables false
set_option linter.unusedSimpArgs false
namespace Lw
theorem lawIsGapKept (x0 : Gx.House) (o0 : x0.ok) : Pure Try.prog 5 [DV.agg (Gx.House.enc x0)] (.one (.b true)) := l_FnExactIsGapKept_ok 1048578 x0 (p_FnExactIsGapKept (by omega) x0 o0)
end Lw
end Go.Proofs
