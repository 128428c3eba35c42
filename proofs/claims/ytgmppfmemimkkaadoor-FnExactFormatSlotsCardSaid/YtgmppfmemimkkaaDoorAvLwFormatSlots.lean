/- the law's walk -/
import Derived.Test.YtgmppfmemimkkaaDoorAvPn0FormatSlots
import Derived.Test.YtgmppfmemimkkaaDoorAvPfFormatSlots0
namespace Go.Proofs
open Go Go.Av
set_option maxRecDepth 100000
set_option maxHeartbeats 40000000
set_option linter.unusedVariables false
set_option linter.unusedSimpArgs false
namespace Lw
theorem lawFormatSlots (x0 : Gx.Grid) (o0 : x0.ok) : Pure Tryd.prog 4 [DV.agg (Gx.Grid.enc x0)] (.one (.b true)) := l_FnExactFormatSlots_ok 67108865 x0 (p_FnExactFormatSlots (by omega) x0 o0)
end Lw
end Go.Proofs
