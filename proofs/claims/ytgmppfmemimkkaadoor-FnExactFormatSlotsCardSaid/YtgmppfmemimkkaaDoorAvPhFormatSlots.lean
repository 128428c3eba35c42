/- PRINTED BY plain.py (mine): what the law's own helpers compute. -/
import Derived.Test.YtgmppfmemimkkaaDoorAvPl
import Derived.Test.YtgmppfmemimkkaaDoorAvShFormatSlots
namespace Go.Proofs
open Go Go.Av
set_option maxRecDepth 100000
set_option maxHeartbeats 40000000
set_option linter.unusedVariables false
set_option linter.unusedSimpArgs false
namespace Lw
theorem p_szGrid {N : Nat} (hN : 67108864 < N) (x : Gx.Grid) (hok : x.ok) {left : Int} (h0 : 0 ≤ left) (h1 : left ≤ 1048576) : l_szGrid N x left = some (szF x.size left) := by
 unfold l_szGrid Gx.Grid.size
 unfold Gx.Grid.ok at hok
 obtain ⟨q0, q1, q2⟩ := hok
 exact sz_len h0 h1 q2

theorem p_toGrid {N : Nat} (hN : 67108864 < N) (x : Gx.Grid) (h : x.size ≤ 1048576) : l_toGrid N x = some x := by
 unfold l_toGrid
 all_goals rfl

end Lw
end Go.Proofs
