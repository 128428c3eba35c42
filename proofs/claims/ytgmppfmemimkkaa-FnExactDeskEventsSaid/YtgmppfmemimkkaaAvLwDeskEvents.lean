/- the law's walk -/
import Derived.Test.YtgmppfmemimkkaaAvPn0DeskEvents
import Derived.Test.YtgmppfmemimkkaaAvPfDeskEvents1
namespace Go.Proofs
open Go Go.Av
set_option maxRecDepth 100000
set_option maxHeartbeats 4000000
set_option linter.unusedVariables false
set_option linter.unusedSimpArgs false
namespace Lw
theorem lawDeskEvents (x0 : Gx.Grid) (o0 : x0.ok) (x1 : List UInt8) (o1 : x1.length ≤ 9223372036854775807) (x2 : List (Gx.Clue)) (o2 : x2.length ≤ 9223372036854775807) (p2 : ∀ e ∈ x2, e.ok) : Pure Try.prog 3 [DV.agg (Gx.Grid.enc x0), DV.one (D.s x1), DV.one (D.sl 2 (List.map Gx.Clue.enc x2))] (.one (.b true)) := l_FnExactDeskEvents_ok 67108865 x0 x1 x2 (p_FnExactDeskEvents (by omega) x0 o0 x1 x2 o2 p2)
end Lw
end Go.Proofs
