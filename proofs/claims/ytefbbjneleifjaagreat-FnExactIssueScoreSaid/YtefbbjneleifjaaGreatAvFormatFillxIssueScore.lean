/- plain laws -/
import Derived.Test.YtefbbjneleifjaaGreatAvM1xIssueScore
namespace Go.Proofs
open Go Go.Av
set_option maxRecDepth 100000
set_option maxHeartbeats 4000000
set_option linter.unusedVariables false
set_option linter.unusedSimpArgs false
namespace Lw
structure Dims (g : Gx.Grid) (R C : Nat) : Prop where
  r : g.mRows = (R : Int)
  c : g.mCols = (C : Int)
  r2 : 2 ≤ R ∧ R ≤ 6
  c2 : 2 ≤ C ∧ C ≤ 6
  len : g.mCells.length = R * C
theorem GridOk.dims {g : Gx.Grid} (h : GridOk g) : ∃ R C, Dims g R C := by
  refine ⟨g.mRows.toNat, g.mCols.toNat, ?_, ?_, ?_, ?_, ?_⟩ <;> have := h.rows <;> have := h.cols <;> have hl := h.len
  · omega
  · omega
  · omega
  · omega
  · have e : ((g.mRows.toNat * g.mCols.toNat : Nat) : Int) = g.mRows * g.mCols := by
      rw [Int.natCast_mul, Int.toNat_of_nonneg (by omega), Int.toNat_of_nonneg (by omega)]
    omega
theorem rc36 {R C : Nat} (h1 : R ≤ 6) (h2 : C ≤ 6) : R * C ≤ 36 := Nat.mul_le_mul h1 h2
end Lw
end Go.Proofs
