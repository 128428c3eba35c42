/- plain laws -/
import Derived.Test.YtefbbjneleifjaaGreatAvM4xIssueScore
namespace Go.Proofs
open Go Go.Av
set_option maxRecDepth 100000
set_option maxHeartbeats 4000000
set_option linter.unusedVariables false
set_option linter.unusedSimpArgs false
namespace Lw
def wordsI (x : Gx.Issue) : List (List UInt8) := wordsIn x.mPuzzle.mGrid x.mFill
def IssSmall (x : Gx.Issue) : Prop := x.mPuzzle.mGrid.mCells.length ≤ 1048576
theorem p_i_words {N : Nat} (hN : 1048577 < N) (x : Gx.Issue) : i_Issue_words N x = some (wordsI x) := by
  unfold i_Issue_words wordsI
  rw [p_i_WordsIn hN, bnd_mk]
theorem p_s_words {N : Nat} (hN : 1048577 < N) (x : Gx.Issue) (hx : IssSmall x) : s_l36Words N x = some (wordsI x) := by
  unfold s_l36Words wordsI
  rw [p_s_WordsIn hN _ _ hx, bnd_mk]
theorem wordsI_len (x : Gx.Issue) : (wordsI x).length ≤ 72 := wordsIn_len _ _
end Lw
end Go.Proofs
