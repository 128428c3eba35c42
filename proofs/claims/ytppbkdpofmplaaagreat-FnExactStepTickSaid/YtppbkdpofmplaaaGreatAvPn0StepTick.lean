/- plain laws -/
import Derived.Test.YtppbkdpofmplaaaGreatAvPhStepTick
namespace Go.Proofs
open Go Go.Av
set_option maxRecDepth 100000
set_option maxHeartbeats 4000000
set_option linter.unusedVariables false
set_option linter.unusedSimpArgs false
namespace Lw
theorem p_s_l1In (N : Nat) (n a b : Int) : s_l1In N n a b = some (decide (a ≤ n ∧ n ≤ b)) := by
 unfold s_l1In
 rw [sel_ite]
 split <;> simp <;> omega
theorem p_i_InRange (N : Nat) (n a b : Int) : i_InRange N n a b = some (decide (a ≤ n ∧ n ≤ b)) := by
 unfold i_InRange
 rw [sel_ite]
 split <;> simp <;> omega
def inR (n a b : Int) : Bool := decide (a ≤ n ∧ n ≤ b)
theorem p_i_inR (N : Nat) (n a b : Int) : i_InRange N n a b = some (inR n a b) := p_i_InRange N n a b
theorem p_s_inR (N : Nat) (n a b : Int) : s_l1In N n a b = some (inR n a b) := p_s_l1In N n a b
structure CpIss (x : Gx.Issue) : Prop where
 clues : x.mPuzzle.mClues.length ≤ 1048576
 play : ∀ c ∈ x.mPuzzle.mClues, c.mPlay.length ≤ 1048576
 seals : x.mPuzzle.mSeals.length ≤ 1048576
 cells : x.mPuzzle.mGrid.mCells.length ≤ 1048576
theorem cp_clue {c : Gx.Clue} : c.mPlay.length ≤ c.size := by
 unfold Gx.Clue.size
 omega
theorem cp_iss {x : Gx.Issue} (hs : x.size ≤ 1048576) : CpIss x := by
 unfold Gx.Issue.size Gx.Puzzle.size Gx.Grid.size at hs
 refine ⟨by omega, fun c hc => ?_, by omega, by omega⟩
 have h2 : c.size ≤ (x.mPuzzle.mClues.map (fun e : Gx.Clue => e.size)).sum := mem_sum (fun e : Gx.Clue => e.size) hc
 have h3 := @cp_clue c
 omega
theorem cp_issues {h : Gx.House} (hs : h.size ≤ 1048576) : h.mIssues.length ≤ 1048576 ∧ ∀ x ∈ h.mIssues, CpIss x := by
 unfold Gx.House.size at hs
 refine ⟨by omega, fun x hx => cp_iss ?_⟩
 have h2 : x.size ≤ (h.mIssues.map (fun e : Gx.Issue => e.size)).sum := mem_sum (fun e : Gx.Issue => e.size) hx
 omega
theorem p_i_copyClues {N : Nat} (hN : 67108864 < N) (l : List Gx.Clue) (hl : l.length ≤ 1048576) (hp : ∀ c ∈ l, c.mPlay.length ≤ 1048576) : i_copyClues N l = some l := by
 unfold i_copyClues
 rw [loop_map (N := N) (l := l) (fun x => x) (fi := id) (fun i x a hx hi ha => by
  have hc := hp x (List.mem_of_getElem? hx)
  unfold i_copyClues_L1 i_copyClue g_slices_Clone_Simpl_Step_impl_Step
  simp only
  rw [sel_pos (by omega), getI_nat hx, bnd_mk, chk_pos (by omega), bnd_mk, bnd_mk, chk_pos (by simp; omega)]) (fun a => by unfold i_copyClues_L1; rw [sel_neg (by simp)]; rfl) (by omega) (by omega)]
 simp
theorem p_s_l21Clues {N : Nat} (hN : 67108864 < N) (l : List Gx.Clue) (hl : l.length ≤ 1048576) (hp : ∀ c ∈ l, c.mPlay.length ≤ 1048576) : s_l21Clues N l = some l := by
 unfold s_l21Clues
 rw [loop_map (N := N) (l := l) (fun x => x) (fi := id) (fun i x a hx hi ha => by
  have hc := hp x (List.mem_of_getElem? hx)
  unfold s_l21Clues_L1 s_l18Copy
  simp only
  rw [sel_pos (by omega), getI_nat hx, bnd_mk, chk_pos (by simp; omega), bnd_mk, chk_pos (by simp; omega)]) (fun a => by unfold s_l21Clues_L1; rw [sel_neg (by simp)]; rfl) (by omega) (by omega)]
 simp
theorem p_i_copyIssue {N : Nat} (hN : 67108864 < N) {x : Gx.Issue} (hx : CpIss x) : i_copyIssue N x = some x := by
 unfold i_copyIssue i_copyPuzzle g_slices_Clone_Sint_int
 rw [p_i_copyClues hN _ hx.clues hx.play, bnd_mk, chk_pos (by have := hx.seals; omega)]
 rfl
theorem p_s_l30Copy {N : Nat} (hN : 67108864 < N) {x : Gx.Issue} (hx : CpIss x) : s_l30Copy N x = some x := by
 unfold s_l30Copy s_l21Copy
 rw [p_s_l21Clues hN _ hx.clues hx.play, bnd_mk, chk_pos (by have := hx.seals; simp; omega)]
 rfl
structure CpDraft (x : Gx.Draft) : Prop where
 clues : x.mClues.length ≤ 1048576
 play : ∀ c ∈ x.mClues, c.mPlay.length ≤ 1048576
 cells : x.mGrid.mCells.length ≤ 1048576
structure CpHouse (h : Gx.House) : Prop where
 list : h.mList.length ≤ 1048576
 dict : h.mDict.length ≤ 1048576
 desk : CpDraft h.mDesk
 issl : h.mIssues.length ≤ 1048576
 iss : ∀ x ∈ h.mIssues, CpIss x
 uses : h.mUses.length ≤ 1048576
 corr : h.mCorrections.length ≤ 1048576
 corrp : ∀ c ∈ h.mCorrections, c.mClue.mPlay.length ≤ 1048576
 ents : h.mEntries.length ≤ 1048576
theorem cp_house {h : Gx.House} (hs : h.size ≤ 1048576) : CpHouse h := by
 obtain ⟨h1, h2⟩ := cp_issues hs
 unfold Gx.House.size Gx.Draft.size Gx.Grid.size at hs
 refine ⟨by omega, by omega, ⟨by omega, fun c hc => ?_, by omega⟩, h1, h2, by omega, by omega, fun c hc => ?_, by omega⟩
 ·have h3 : c.size ≤ (h.mDesk.mClues.map (fun e : Gx.Clue => e.size)).sum := mem_sum (fun e : Gx.Clue => e.size) hc
  have := @cp_clue c
  omega
 ·have h3 : c.size ≤ (h.mCorrections.map (fun e : Gx.Correction => e.size)).sum := mem_sum (fun e : Gx.Correction => e.size) hc
  have h4 := @cp_clue c.mClue
  have h5 : c.mClue.size ≤ c.size := by unfold Gx.Correction.size; omega
  omega
theorem p_i_copyDraft {N : Nat} (hN : 67108864 < N) {x : Gx.Draft} (hx : CpDraft x) : i_copyDraft N x = some x := by
 unfold i_copyDraft
 rw [p_i_copyClues hN _ hx.clues hx.play, bnd_mk]
theorem p_s_l27Copy {N : Nat} (hN : 67108864 < N) {x : Gx.Draft} (hx : CpDraft x) : s_l27Copy N x = some x := by
 unfold s_l27Copy
 rw [p_s_l21Clues hN _ hx.clues hx.play, bnd_mk]
theorem p_i_copyCorrections {N : Nat} (hN : 67108864 < N) (l : List Gx.Correction) (hl : l.length ≤ 1048576) (hp : ∀ c ∈ l, c.mClue.mPlay.length ≤ 1048576) : i_copyCorrections N l = some l := by
 unfold i_copyCorrections
 rw [loop_map (N := N) (l := l) (fun x => x) (fi := id) (fun i x a hx hi ha => by
  have hc := hp x (List.mem_of_getElem? hx)
  unfold i_copyCorrections_L1 i_copyClue g_slices_Clone_Simpl_Step_impl_Step
  simp only
  rw [sel_pos (by omega), getI_nat hx, bnd_mk, chk_pos (by omega), bnd_mk, bnd_mk, chk_pos (by simp; omega)]) (fun a => by unfold i_copyCorrections_L1; rw [sel_neg (by simp)]; rfl) (by omega) (by omega)]
 simp
theorem p_s_l31Copy {N : Nat} (hN : 67108864 < N) (l : List Gx.Correction) (hl : l.length ≤ 1048576) (hp : ∀ c ∈ l, c.mClue.mPlay.length ≤ 1048576) : s_l31Copy N l = some l := by
 unfold s_l31Copy
 rw [loop_map (N := N) (l := l) (fun x => x) (fi := id) (fun i x a hx hi ha => by
  have hc := hp x (List.mem_of_getElem? hx)
  unfold s_l31Copy_L1 s_l18Copy
  simp only
  rw [sel_pos (by omega), getI_nat hx, bnd_mk, chk_pos (by simp; omega), bnd_mk, chk_pos (by simp; omega)]) (fun a => by unfold s_l31Copy_L1; rw [sel_neg (by simp)]; rfl) (by omega) (by omega)]
 simp
theorem p_i_copyHouse {N : Nat} (hN : 67108864 < N) {h : Gx.House} (hx : CpHouse h) : i_copyHouse N h = some h := by
 have l1 := hx.list
 have l2 := hx.dict
 have l3 := hx.uses
 have l4 := hx.ents
 have l5 := hx.issl
 unfold i_copyHouse g_slices_Clone_Simpl_Listed_impl_Listed g_slices_Clone_Simpl_Meaning_impl_Meaning g_slices_Clone_Simpl_Used_impl_Used g_slices_Clone_Simpl_Entry_impl_Entry
 rw [chk_pos (by omega), bnd_mk, chk_pos (by omega), bnd_mk, p_i_copyDraft hN hx.desk, bnd_mk,
  loop_map (N := N) (l := h.mIssues) (fun x => x) (fi := id) (fun i x a hx' hi ha => by
   unfold i_copyHouse_L1
   simp only
   rw [sel_pos (by omega), getI_nat hx', bnd_mk, p_i_copyIssue hN (hx.iss x (List.mem_of_getElem? hx')), bnd_mk, chk_pos (by simp; omega)]) (fun a => by unfold i_copyHouse_L1; rw [sel_neg (by simp)]; rfl) (by omega) (by omega),
  bnd_mk, chk_pos (by omega), bnd_mk, p_i_copyCorrections hN _ hx.corr hx.corrp, bnd_mk, chk_pos (by omega), bnd_mk, List.map_id']
 rfl
theorem p_s_l33Copy {N : Nat} (hN : 67108864 < N) {h : Gx.House} (hx : CpHouse h) : s_l33Copy N h = some h := by
 have l1 := hx.list
 have l2 := hx.dict
 have l3 := hx.uses
 have l4 := hx.ents
 have l5 := hx.issl
 unfold s_l33Copy
 rw [chk_pos (by simp; omega), chk_pos (by simp; omega), p_s_l27Copy hN hx.desk, bnd_mk, chk_pos (by simp; omega), p_s_l31Copy hN _ hx.corr hx.corrp, bnd_mk, chk_pos (by simp; omega),
  loop_map (N := N) (l := h.mIssues) (fun x => x) (fi := id) (fun i x a hx' hi ha => by
   unfold s_l33Copy_L1
   simp only
   rw [sel_pos (by omega), getI_nat hx', bnd_mk, p_s_l30Copy hN (hx.iss x (List.mem_of_getElem? hx')), bnd_mk, chk_pos (by simp; omega)]) (fun a => by unfold s_l33Copy_L1; rw [sel_neg (by simp)]; rfl) (by omega) (by omega),
  bnd_mk, List.map_id']
 rfl
theorem mark_house {N : Nat} (hN : 67108864 < N) (g : Gx.House) (hs : g.size ≤ 4194303) : ∃ a b c d e f i, ∃ n : Nat, l_markHouse N g 1 = some (a, b, c, d, e, f, i, (n : Int)) := by
 have hc := cntHouse_le g 1
 exact ⟨_, _, _, _, _, _, _, _, p_markHouse hN g 1 (by omega)⟩
theorem marks_house {N : Nat} (hN : 67108864 < N) (g : Gx.House) (hs : g.size ≤ 4194303) : ∃ a b c d e f i, ∃ n : Nat, l_markHouse N g 1 = some (a, b, c, d, e, f, i, (n : Int)) ∧
  l_heldHouse N ⟨a, b, ⟨⟨g.mDesk.mGrid.mRows, g.mDesk.mGrid.mCols, g.mDesk.mGrid.mCells⟩, g.mDesk.mFill, c, g.mDesk.mVersion⟩, d, e, f, i, g.mNow⟩ 1 = some (n : Int) := by
 have hc := cntHouse_le g 1
 have hm := p_markHouse hN g 1 (by omega)
 exact ⟨_, _, _, _, _, _, _, _, hm, p_heldHouse hN g _ 1 rfl rfl rfl rfl rfl rfl rfl (by omega)⟩
def stepTick (h : Gx.House) (n : Int) : Gx.House × Bool :=
 if (inR n 1 100 && inR h.mNow 0 (1000 - n)) = true then (⟨h.mList, h.mDict, h.mDesk, h.mIssues, h.mUses, h.mCorrections, h.mEntries, h.mNow + n⟩, true) else (h, false)
theorem p_i_StepTick {N : Nat} (hN : 67108864 < N) {h : Gx.House} (hx : CpHouse h) (n : Int) : i_StepTick N h n = some (stepTick h n) := by
 unfold i_StepTick stepTick
 rw [p_i_copyHouse hN hx, bnd_mk, p_i_inR, bnd_mk]
 cases h1 : inR n 1 100 with
 | false => rfl
 | true =>
  have h2 : 1 ≤ n ∧ n ≤ 100 := by simpa [inR] using h1
  rw [w64_in (n := 1000 - n) (by omega) (by omega)]
  cases h3 : inR h.mNow 0 (1000 - n) with
  | false =>
   have h4 : ¬ (0 ≤ h.mNow ∧ h.mNow ≤ 1000 - n) := by simpa [inR] using h3
   by_cases h5 : h.mNow < 0
   ·simp only [Bool.not_true, sel_false, decide_eq_true h5]; rfl
   ·simp only [Bool.not_true, sel_false, decide_eq_false h5, decide_eq_true (show h.mNow > 1000 - n by omega)]; rfl
  | true =>
   have h4 : 0 ≤ h.mNow ∧ h.mNow ≤ 1000 - n := by simpa [inR] using h3
   rw [w64_in (n := h.mNow + n) (by omega) (by omega)]
   simp only [Bool.not_true, sel_false, decide_eq_false (show ¬ h.mNow < 0 by omega), decide_eq_false (show ¬ h.mNow > 1000 - n by omega)]
   rfl
theorem p_s_StepTick {N : Nat} (hN : 67108864 < N) {h : Gx.House} (hx : CpHouse h) (n : Int) : s_StepTick N h n = some (stepTick h n) := by
 unfold s_StepTick stepTick
 rw [p_s_l33Copy hN hx, bnd_mk, p_s_inR, bnd_mk]
 cases h1 : inR n 1 100 with
 | false => rfl
 | true =>
  have h2 : 1 ≤ n ∧ n ≤ 100 := by simpa [inR] using h1
  rw [w64_in (n := 1000 - n) (by omega) (by omega), p_s_inR]
  cases h3 : inR h.mNow 0 (1000 - n) with
  | false => rfl
  | true =>
   have h4 : 0 ≤ h.mNow ∧ h.mNow ≤ 1000 - n := by simpa [inR] using h3
   rw [w64_in (n := h.mNow + n) (by omega) (by omega)]
   rfl
theorem stepTick_size (h : Gx.House) (n : Int) : (stepTick h n).1.size = h.size := by
 unfold stepTick
 split <;> rfl
theorem p_FnExactStepTick {N : Nat} (hN : 67108864 < N) (x : Gx.House) (hok : x.ok) (n : Int) : l_FnExactStepTick N x n = some true := by
 unfold l_FnExactStepTick
 rw [p_szHouse hN x hok (by omega) (by omega), bnd_mk, sel_ite]
 split
 ·rfl
 ·rename_i h
  have hs : x.size ≤ 1048576 := by unfold szF at h; split at h <;> omega
  have hs' := stepTick_size x n
  rw [p_toHouse hN x hs]
  obtain ⟨a, b, c, d, e, f, i, m, hm⟩ := mark_house hN x (by omega)
  obtain ⟨a', b', c', d', e', f', i', m', hm', hh⟩ := marks_house hN (stepTick x n).1 (by omega)
  have hq := p_eqHouse hN (stepTick x n).1 (stepTick x n).1 (by omega)
  simp only [bnd_mk, p_i_StepTick hN (cp_house hs), p_s_StepTick hN (cp_house hs), p_eqHouse hN x x (by omega), hq, hm, hm', hh, bne_self_eq_false, sel_false, decide_true, Bool.not_true, sel_neg (show ¬ ((m : Int) < 0) by omega), sel_neg (show ¬ ((m' : Int) < 0) by omega)]
end Lw
end Go.Proofs
