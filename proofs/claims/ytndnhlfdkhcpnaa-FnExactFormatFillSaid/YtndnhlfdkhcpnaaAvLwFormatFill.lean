/- the law's walk -/
import Derived.Test.YtndnhlfdkhcpnaaAvFormatFillxFormatFill
import Derived.Test.YtndnhlfdkhcpnaaAvPfFormatFill0
namespace Go.Proofs
open Go Go.Av
set_option maxRecDepth 100000
set_option maxHeartbeats 4000000
set_option linter.unusedVariables false
set_option linter.unusedSimpArgs false
namespace Lw
theorem lawFormatFill (x0 : Gx.Grid) (o0 : x0.ok) (x1 : List UInt8) (o1 : x1.length ≤ 9223372036854775807) : Pure Try.prog 3 [DV.agg (Gx.Grid.enc x0), DV.one (D.s x1)] (.one (.b true)) := l_FnExactFormatFill_ok 1048578 x0 x1 (p_FnExactFormatFill (by omega) x0 o0 x1)
end Lw
end Go.Proofs
