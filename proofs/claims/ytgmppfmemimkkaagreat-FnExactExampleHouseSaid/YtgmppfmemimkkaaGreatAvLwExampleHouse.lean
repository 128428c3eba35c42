/- the law's walk -/
import Derived.Test.YtgmppfmemimkkaaGreatAvPn2ExampleHouse
import Derived.Test.YtgmppfmemimkkaaGreatAvPfExampleHouse5
namespace Go.Proofs
open Go Go.Av
set_option maxRecDepth 100000
set_option maxHeartbeats 4000000
set_option linter.unusedVariables false
set_option linter.unusedSimpArgs false
namespace Lw
theorem lawExampleHouse : Pure Tryz.prog 3 [] (.one (.b true)) := l_FnExactExampleHouse_ok 67108865 (p_FnExactExampleHouse (by omega))
end Lw
end Go.Proofs
