/- the law's walk -/
import Derived.Test.YtgmppfmemimkkaaDoorAvPn0FormatNumbers
import Derived.Test.YtgmppfmemimkkaaDoorAvPfFormatNumbers0
namespace Go.Proofs
open Go Go.Av
set_option maxRecDepth 100000
set_option maxHeartbeats 40000000
set_option linter.unusedVariables false
set_option linter.unusedSimpArgs false
namespace Lw
theorem lawFormatNumbers (x0 : List (Int)) (o0 : x0.length ≤ 9223372036854775807) (p0 : ∀ e ∈ x0, Gx.inR e) : Pure Tryd.prog 3 [DV.one (D.sl 1 (List.map Gx.encI x0))] (.one (.b true)) := l_FnExactFormatNumbers_ok 67108865 x0 (p_FnExactFormatNumbers (by omega) x0 o0 p0)
end Lw
end Go.Proofs
