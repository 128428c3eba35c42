/- plain laws -/
import Derived.Test.YtniibgdokfnomaaGreatDoorAvPn1IsQuiet
namespace Go.Proofs
open Go Go.Av
set_option maxRecDepth 100000
set_option maxHeartbeats 40000000
set_option linter.unusedVariables false
set_option linter.unusedSimpArgs false
namespace Lw
structure CpDraft (x : Gx.Draft) : Prop where
 clues : x.mClues.length ≤ 1048576
 play : ∀ c ∈ x.mClues, c.mPlay.length ≤ 1048576
 cells : x.mGrid.mCells.length ≤ 1048576
structure CpHouse (h : Gx.House) : Prop where
 list : h.mList.length ≤ 1048576
 dict : h.mDict.length ≤ 1048576
 desk : CpDraft h.mDesk
 issl : h.mIssues.length ≤ 1048576
 iss : ∀ x ∈ h.mIssues, CpIss x
 uses : h.mUses.length ≤ 1048576
 corr : h.mCorrections.length ≤ 1048576
 corrp : ∀ c ∈ h.mCorrections, c.mClue.mPlay.length ≤ 1048576
 ents : h.mEntries.length ≤ 1048576
theorem cp_house {h : Gx.House} (hs : h.size ≤ 1048576) : CpHouse h := by
 obtain ⟨h1, h2⟩ := cp_issues hs
 unfold Gx.House.size Gx.Draft.size Gx.Grid.size at hs
 refine ⟨by omega, by omega, ⟨by omega, fun c hc => ?_, by omega⟩, h1, h2, by omega, by omega, fun c hc => ?_, by omega⟩
 ·have h3 : c.size ≤ (h.mDesk.mClues.map (fun e : Gx.Clue => e.size)).sum := mem_sum (fun e : Gx.Clue => e.size) hc
  have := @cp_clue c
  omega
 ·have h3 : c.size ≤ (h.mCorrections.map (fun e : Gx.Correction => e.size)).sum := mem_sum (fun e : Gx.Correction => e.size) hc
  have h4 := @cp_clue c.mClue
  have h5 : c.mClue.size ≤ c.size := by unfold Gx.Correction.size; omega
  omega
def solAt (N : Nat) (x : Gx.Issue) (t : Int) : List UInt8 := if issB N x = true then (if t ≥ x.mClose then x.mFill else emptyFill x.mPuzzle.mGrid) else []
theorem p_i_SolutionAt {N : Nat} (hN : 67108864 < N) {x : Gx.Issue} (hx : CpIss x) (t : Int) : i_SolutionAt N x t = some (solAt N x t) := by
 unfold i_SolutionAt solAt
 rw [p_i_IsIssue hN hx, bnd_mk, p_i_EmptyFill hN, bnd_mk, sel_ite]
 cases issB N x
 ·rfl
 ·rw [if_pos rfl, Bool.not_true, sel_false]
  split <;> rfl
theorem p_s_SolutionAt {N : Nat} (hN : 67108864 < N) {x : Gx.Issue} (hx : CpIss x) (t : Int) : s_SolutionAt N x t = some (solAt N x t) := by
 unfold s_SolutionAt solAt
 rw [p_s_IsIssue hN hx, bnd_mk, p_s_EmptyFill hN, bnd_mk, sel_ite]
 cases issB N x
 ·rfl
 ·rw [if_pos rfl, Bool.not_true, sel_false]
  split <;> rfl
theorem p_i_ShownAt {N : Nat} (hN : 67108864 < N) {x : Gx.Issue} (hx : CpIss x) {t : Int} (h : t < x.mOpen) : i_ShownAt N x t = some [] := by
 unfold i_ShownAt
 rw [p_i_IsIssue hN hx, bnd_mk, sel_pos h]
 cases issB N x <;> rfl
theorem p_s_ShownAt {N : Nat} (hN : 67108864 < N) {x : Gx.Issue} {t : Int} (h : t < x.mOpen) : s_ShownAt N x t = some [] := by
 unfold s_ShownAt
 rw [loopN_inv (N := N) (step := s_ShownAt_L1 N x t) (fun _ => ()) (n := 0) (b := ()) (fun i hi => by omega) (by
  unfold s_ShownAt_L1
  rw [sel_neg (show ¬ (t ≥ x.mOpen) by omega), sel_ite]
  split <;> rfl) (by omega), bnd_mk]
def quietOk (N : Nat) (h : Gx.House) (x : Gx.Issue) : Bool := !(decide (h.mNow < x.mClose) && (solAt N x h.mNow != emptyFill x.mPuzzle.mGrid))
theorem p_i_IsQuiet {N : Nat} (hN : 67108864 < N) {h : Gx.House} (hx : CpHouse h) : i_IsQuiet N h = some (h.mIssues.all (quietOk N h)) := by
 have hl := hx.issl
 unfold i_IsQuiet
 rw [loop_all (l := h.mIssues) (quietOk N h) (b := false) (fun i x hxi hi => by
  have hc := hx.iss x (List.mem_of_getElem? hxi)
  unfold i_IsQuiet_L1 quietOk
  rw [sel_pos (by omega), getI_nat hxi, bnd_mk, p_i_SolutionAt hN hc, bnd_mk, p_i_EmptyFill hN, bnd_mk]
  have tail : sel (decide (h.mNow < x.mOpen)) (bnd (i_ShownAt N x h.mNow) fun x5 => sel (decide ((x5.length : Int) > 0)) (some (.inr (.rt (false)))) (some (.inl (w64 ((i : Int) + 1))))) (some (.inl (w64 ((i : Int) + 1)))) = (some (.inl (w64 ((i : Int) + 1))) : Option (Sum Int (Cut Unit Bool))) := by
   rw [sel_ite]
   split
   ·rename_i ho
    rw [p_i_ShownAt hN hc ho, bnd_mk]; rfl
   ·rfl
  rw [tail]
  cases decide (h.mNow < x.mClose) <;> cases (solAt N x h.mNow != emptyFill x.mPuzzle.mGrid) <;> rfl) (by unfold i_IsQuiet_L1; rw [sel_neg (by omega)]) (by omega) (by omega)]
 split <;> simp_all
theorem p_s_IsQuiet {N : Nat} (hN : 67108864 < N) {h : Gx.House} (hx : CpHouse h) : s_IsQuiet N h = some (h.mIssues.all (quietOk N h)) := by
 have hl := hx.issl
 unfold s_IsQuiet
 rw [loop_all (l := h.mIssues) (quietOk N h) (b := false) (fun i x hxi hi => by
  have hc := hx.iss x (List.mem_of_getElem? hxi)
  unfold s_IsQuiet_L1 quietOk
  rw [sel_pos (by omega), getI_nat hxi, bnd_mk, p_s_SolutionAt hN hc, bnd_mk, p_s_EmptyFill hN, bnd_mk]
  have tail : sel (decide (h.mNow < x.mOpen)) (bnd (s_ShownAt N x h.mNow) fun x5 => sel (decide ((x5.length : Int) > 0)) (some (.inr (.rt (false)))) (some (.inl (w64 ((i : Int) + 1))))) (some (.inl (w64 ((i : Int) + 1)))) = (some (.inl (w64 ((i : Int) + 1))) : Option (Sum Int (Cut Unit Bool))) := by
   rw [sel_ite]
   split
   ·rename_i ho
    rw [p_s_ShownAt hN ho, bnd_mk]; rfl
   ·rfl
  rw [tail]
  cases decide (h.mNow < x.mClose) <;> cases (solAt N x h.mNow != emptyFill x.mPuzzle.mGrid) <;> rfl) (by unfold s_IsQuiet_L1; rw [sel_neg (by omega)]) (by omega) (by omega)]
 split <;> simp_all
theorem p_FnExactIsQuiet {N : Nat} (hN : 67108864 < N) (x : Gx.House) (hok : x.ok) : l_FnExactIsQuiet N x = some true := by
 unfold l_FnExactIsQuiet
 rw [p_szHouse hN x hok (by omega) (by omega), bnd_mk, sel_ite]
 split
 ·rfl
 ·rename_i h
  have hs : x.size ≤ 1048576 := by unfold szF at h; split at h <;> omega
  rw [p_toHouse hN x hs]
  simp only [bnd_mk]
  rw [p_s_IsQuiet hN (cp_house hs)]
  simp only [bnd_mk]
  rw [p_i_IsQuiet hN (cp_house hs)]
  simp only [bnd_mk, bne_self_eq_false, sel_false]
  rw [p_eqHouse hN x x (by omega), bnd_mk]
  simp
end Lw
end Go.Proofs
