/- plain laws -/
import Derived.Test.YtndnhlfdkhcpnaaAvPhCountEntries
namespace Go.Proofs
open Go Go.Av
set_option maxRecDepth 100000
set_option maxHeartbeats 4000000
set_option linter.unusedVariables false
set_option linter.unusedSimpArgs false
namespace Lw
def cntE (n : Int) : List Gx.Entry → Int → Int
  | [], a => a
  | e :: r, a => cntE n r (if e.mIssue = n then a + 1 else a)
theorem q_CountEntries {N : Nat} (hN : 1048577 < N) (x : Gx.House) (n : Int) (hs : x.size ≤ 1048576) : s_CountEntries N x n = some (cntE n x.mEntries 0) := by
  have hl : x.mEntries.length ≤ 1048576 := by unfold Gx.House.size at hs; omega
  unfold s_CountEntries
  have := loopN_list (N := N) (step := s_CountEntries_L1 N x n) (fun i a => (a, (i : Int))) x.mEntries (cntE n) (fun i a => 0 ≤ a ∧ a ≤ i) (a := 0) ⟨by omega, by omega⟩
    (fun a ha => by unfold s_CountEntries_L1; rw [sel_neg (by omega)]; rfl)
    (fun i a e r ha he hr hi => by
      left
      unfold s_CountEntries_L1
      simp only
      rw [sel_pos (by omega), getI_nat he, bnd_mk, sel_eq, w64_nat (by omega), w64_in (by omega) (by omega)]
      by_cases h : e.mIssue = n
      · rw [if_pos (by simpa using h)]
        exact ⟨_, rfl, ⟨by omega, by omega⟩, by simp only [cntE, if_pos h]⟩
      · rw [if_neg (by simpa using h)]
        exact ⟨_, rfl, ⟨by omega, by omega⟩, by simp only [cntE, if_neg h]⟩) (by omega)
  rw [show ((0 : Int), (0 : Int)) = (0, ((0 : Nat) : Int)) from rfl, this]
  rfl
theorem e_CountEntries (N : Nat) (x : Gx.House) (n : Int) : i_CountEntries N x n = s_CountEntries N x n := rfl
theorem p_FnExactCountEntries {N : Nat} (hN : 1048577 < N) (x : Gx.House) (hok : x.ok) (n : Int) : l_FnExactCountEntries N x n = some true := by
  unfold l_FnExactCountEntries
  rw [p_szHouse hN x hok (by omega) (by omega), bnd_mk, sel_ite]
  split
  · rfl
  · rename_i h
    have hs : x.size ≤ 1048576 := by unfold szF at h; split at h <;> omega
    rw [p_toHouse hN x hs]
    simp only [bnd_mk, e_CountEntries, q_CountEntries hN x n hs, p_eqHouse hN x x hs, bne_self_eq_false, sel_false, decide_true, Bool.not_true]
end Lw
end Go.Proofs
