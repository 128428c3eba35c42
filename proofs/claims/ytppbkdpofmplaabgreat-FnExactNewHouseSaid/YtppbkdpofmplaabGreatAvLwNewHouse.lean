/- the law's walk -/
import Derived.Test.YtppbkdpofmplaabGreatAvPn2NewHouse
import Derived.Test.YtppbkdpofmplaabGreatAvPfNewHouse5
namespace Go.Proofs
open Go Go.Av
set_option maxRecDepth 100000
set_option maxHeartbeats 4000000
set_option linter.unusedVariables false
set_option linter.unusedSimpArgs false
namespace Lw
theorem lawNewHouse (x0 : List (Gx.Listed)) (o0 : x0.length ≤ 9223372036854775807) (p0 : ∀ e ∈ x0, e.ok) (x1 : List (Gx.Meaning)) (o1 : x1.length ≤ 9223372036854775807) (p1 : ∀ e ∈ x1, e.ok) : Pure Tryz.prog 3 [DV.one (D.sl 4 (List.map Gx.Listed.enc x0)), DV.one (D.sl 2 (List.map Gx.Meaning.enc x1))] (.one (.b true)) := l_FnExactNewHouse_ok 67108865 x0 x1 (p_FnExactNewHouse (by omega) x0 o0 p0 x1 o1 p1)
end Lw
end Go.Proofs
