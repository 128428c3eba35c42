/- the law's walk -/
import Derived.Test.YtgmppfmemimkkaaGreatAvPn1StepWrite
import Derived.Test.YtgmppfmemimkkaaGreatAvPfStepWrite4
namespace Go.Proofs
open Go Go.Av
set_option maxRecDepth 100000
set_option maxHeartbeats 40000000
set_option linter.unusedVariables false
set_option linter.unusedSimpArgs false
namespace Lw
theorem lawStepWrite (x0 : Gx.House) (o0 : x0.ok) (x1 : Int) (o1 : Gx.inR x1) (x2 : List UInt8) (o2 : x2.length ≤ 9223372036854775807) : Pure Tryz.prog 4 [DV.agg (Gx.House.enc x0), DV.one (D.i x1), DV.one (D.s x2)] (.one (.b true)) := l_FnExactStepWrite_ok 67108865 x0 x1 x2 (p_FnExactStepWrite (by omega) x0 o0 x1 x2)
end Lw
end Go.Proofs
