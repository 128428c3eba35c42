/- the law's walk -/
import Derived.Test.YtgmppfmemimkkabGreatAvPn0UnusedWords
import Derived.Test.YtgmppfmemimkkabGreatAvPfUnusedWords1
namespace Go.Proofs
open Go Go.Av
set_option maxRecDepth 100000
set_option maxHeartbeats 40000000
set_option linter.unusedVariables false
set_option linter.unusedSimpArgs false
namespace Lw
theorem lawUnusedWords (x0 : Gx.House) (o0 : x0.ok) : Pure Tryz.prog 4 [DV.agg (Gx.House.enc x0)] (.one (.b true)) := l_FnExactUnusedWords_ok 67108865 x0 (p_FnExactUnusedWords (by omega) x0 o0)
end Lw
end Go.Proofs
