/- PRINTED BY plain.py (mine): what the law's own helpers compute. -/
import Derived.Test.YtgmppfmemimkkaaDoorAvPl
import Derived.Test.YtgmppfmemimkkaaDoorAvShFormatNumbers
namespace Go.Proofs
open Go Go.Av
set_option maxRecDepth 100000
set_option maxHeartbeats 40000000
set_option linter.unusedVariables false
set_option linter.unusedSimpArgs false
namespace Lw
theorem p_toIntS {N : Nat} (hN : 67108864 < N) (l : List (Int)) (h : l.length ≤ 1048576) : l_toIntS N l = some l := by
 unfold l_toIntS
 rw [chk_pos ⟨by omega, by omega⟩, copy_loop (l := l) (N := N) (step := l_toIntS_L1 N l) (to := some) (fun p => rfl) (fun x hx => rfl) (by omega) (by omega)]
 rfl

theorem p_eqIntS {N : Nat} (hN : 67108864 < N) (l m : List (Int)) (h : l.length ≤ 4194304) : l_eqIntS N l m = some (decide (l = m)) := by
 unfold l_eqIntS
 refine eq_fld (fun h e => h (by rw [e])) (fun e => ?_)
 exact eq_loop (eq := fun x y => some (x == y)) (fun p => rfl) (fun x hx y => congrArg some (Bool.eq_iff_iff.2 (by simp))) (by omega) (by omega) (by omega)

end Lw
end Go.Proofs
