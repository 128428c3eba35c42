/- the law's walk -/
import Derived.Test.YtniibgdokfnomaaGreatAvPn0StepWord
import Derived.Test.YtniibgdokfnomaaGreatAvPfStepWord3
namespace Go.Proofs
open Go Go.Av
set_option maxRecDepth 100000
set_option maxHeartbeats 40000000
set_option linter.unusedVariables false
set_option linter.unusedSimpArgs false
namespace Lw
theorem lawStepWord (x0 : Gx.House) (o0 : x0.ok) (x1 : Gx.Listed) (o1 : x1.ok) (x2 : Gx.Meaning) (o2 : x2.ok) : Pure Tryz.prog 4 [DV.agg (Gx.House.enc x0), DV.agg (Gx.Listed.enc x1), DV.agg (Gx.Meaning.enc x2)] (.one (.b true)) := l_FnExactStepWord_ok 67108865 x0 x1 x2 (p_FnExactStepWord (by omega) x0 o0 x1 o1 x2 o2)
end Lw
end Go.Proofs
