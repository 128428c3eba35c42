/- plain laws -/
import Derived.Test.YtppbkdpofmplaabGreatAvPn1StepEnter
namespace Go.Proofs
open Go Go.Av
set_option maxRecDepth 100000
set_option maxHeartbeats 4000000
set_option linter.unusedVariables false
set_option linter.unusedSimpArgs false
namespace Lw
theorem cp_none : CpIss noIss := ⟨by simp [noIss], by simp [noIss], by simp [noIss], by simp [noIss]⟩
theorem cp_of {l : List Gx.Issue} (h : ∀ x ∈ l, CpIss x) (n : Int) : CpIss (issueOf l n).1 := by
 rcases issueOf_in l n with e | ⟨_, e, _⟩
 ·rw [e]; exact cp_none
 ·exact h _ e
structure CpDraft (x : Gx.Draft) : Prop where
 clues : x.mClues.length ≤ 1048576
 play : ∀ c ∈ x.mClues, c.mPlay.length ≤ 1048576
 cells : x.mGrid.mCells.length ≤ 1048576
structure CpHouse (h : Gx.House) : Prop where
 list : h.mList.length ≤ 1048576
 dict : h.mDict.length ≤ 1048576
 desk : CpDraft h.mDesk
 issl : h.mIssues.length ≤ 1048576
 iss : ∀ x ∈ h.mIssues, CpIss x
 uses : h.mUses.length ≤ 1048576
 corr : h.mCorrections.length ≤ 1048576
 corrp : ∀ c ∈ h.mCorrections, c.mClue.mPlay.length ≤ 1048576
 ents : h.mEntries.length ≤ 1048576
theorem cp_house {h : Gx.House} (hs : h.size ≤ 1048576) : CpHouse h := by
 obtain ⟨h1, h2⟩ := cp_issues hs
 unfold Gx.House.size Gx.Draft.size Gx.Grid.size at hs
 refine ⟨by omega, by omega, ⟨by omega, fun c hc => ?_, by omega⟩, h1, h2, by omega, by omega, fun c hc => ?_, by omega⟩
 ·have h3 : c.size ≤ (h.mDesk.mClues.map (fun e : Gx.Clue => e.size)).sum := mem_sum (fun e : Gx.Clue => e.size) hc
  have := @cp_clue c
  omega
 ·have h3 : c.size ≤ (h.mCorrections.map (fun e : Gx.Correction => e.size)).sum := mem_sum (fun e : Gx.Correction => e.size) hc
  have h4 := @cp_clue c.mClue
  have h5 : c.mClue.size ≤ c.size := by unfold Gx.Correction.size; omega
  omega
theorem p_i_copyDraft {N : Nat} (hN : 67108864 < N) {x : Gx.Draft} (hx : CpDraft x) : i_copyDraft N x = some x := by
 unfold i_copyDraft
 rw [p_i_copyClues hN _ hx.clues hx.play, bnd_mk]
theorem p_s_l27Copy {N : Nat} (hN : 67108864 < N) {x : Gx.Draft} (hx : CpDraft x) : s_l27Copy N x = some x := by
 unfold s_l27Copy
 rw [p_s_l21Clues hN _ hx.clues hx.play, bnd_mk]
theorem p_i_copyCorrections {N : Nat} (hN : 67108864 < N) (l : List Gx.Correction) (hl : l.length ≤ 1048576) (hp : ∀ c ∈ l, c.mClue.mPlay.length ≤ 1048576) : i_copyCorrections N l = some l := by
 unfold i_copyCorrections
 rw [loop_map (N := N) (l := l) (fun x => x) (fi := id) (fun i x a hx hi ha => by
  have hc := hp x (List.mem_of_getElem? hx)
  unfold i_copyCorrections_L1 i_copyClue g_slices_Clone_Simpl_Step_impl_Step
  simp only
  rw [sel_pos (by omega), getI_nat hx, bnd_mk, chk_pos (by omega), bnd_mk, bnd_mk, chk_pos (by simp; omega)]) (fun a => by unfold i_copyCorrections_L1; rw [sel_neg (by simp)]; rfl) (by omega) (by omega)]
 simp
theorem p_s_l31Copy {N : Nat} (hN : 67108864 < N) (l : List Gx.Correction) (hl : l.length ≤ 1048576) (hp : ∀ c ∈ l, c.mClue.mPlay.length ≤ 1048576) : s_l31Copy N l = some l := by
 unfold s_l31Copy
 rw [loop_map (N := N) (l := l) (fun x => x) (fi := id) (fun i x a hx hi ha => by
  have hc := hp x (List.mem_of_getElem? hx)
  unfold s_l31Copy_L1 s_l18Copy
  simp only
  rw [sel_pos (by omega), getI_nat hx, bnd_mk, chk_pos (by simp; omega), bnd_mk, chk_pos (by simp; omega)]) (fun a => by unfold s_l31Copy_L1; rw [sel_neg (by simp)]; rfl) (by omega) (by omega)]
 simp
theorem p_i_copyHouse {N : Nat} (hN : 67108864 < N) {h : Gx.House} (hx : CpHouse h) : i_copyHouse N h = some h := by
 have l1 := hx.list
 have l2 := hx.dict
 have l3 := hx.uses
 have l4 := hx.ents
 have l5 := hx.issl
 unfold i_copyHouse g_slices_Clone_Simpl_Listed_impl_Listed g_slices_Clone_Simpl_Meaning_impl_Meaning g_slices_Clone_Simpl_Used_impl_Used g_slices_Clone_Simpl_Entry_impl_Entry
 rw [chk_pos (by omega), bnd_mk, chk_pos (by omega), bnd_mk, p_i_copyDraft hN hx.desk, bnd_mk,
  loop_map (N := N) (l := h.mIssues) (fun x => x) (fi := id) (fun i x a hx' hi ha => by
   unfold i_copyHouse_L1
   simp only
   rw [sel_pos (by omega), getI_nat hx', bnd_mk, p_i_copyIssue hN (hx.iss x (List.mem_of_getElem? hx')), bnd_mk, chk_pos (by simp; omega)]) (fun a => by unfold i_copyHouse_L1; rw [sel_neg (by simp)]; rfl) (by omega) (by omega),
  bnd_mk, chk_pos (by omega), bnd_mk, p_i_copyCorrections hN _ hx.corr hx.corrp, bnd_mk, chk_pos (by omega), bnd_mk, List.map_id']
 rfl
theorem p_s_l33Copy {N : Nat} (hN : 67108864 < N) {h : Gx.House} (hx : CpHouse h) : s_l33Copy N h = some h := by
 have l1 := hx.list
 have l2 := hx.dict
 have l3 := hx.uses
 have l4 := hx.ents
 have l5 := hx.issl
 unfold s_l33Copy
 rw [chk_pos (by simp; omega), chk_pos (by simp; omega), p_s_l27Copy hN hx.desk, bnd_mk, chk_pos (by simp; omega), p_s_l31Copy hN _ hx.corr hx.corrp, bnd_mk, chk_pos (by simp; omega),
  loop_map (N := N) (l := h.mIssues) (fun x => x) (fi := id) (fun i x a hx' hi ha => by
   unfold s_l33Copy_L1
   simp only
   rw [sel_pos (by omega), getI_nat hx', bnd_mk, p_s_l30Copy hN (hx.iss x (List.mem_of_getElem? hx')), bnd_mk, chk_pos (by simp; omega)]) (fun a => by unfold s_l33Copy_L1; rw [sel_neg (by simp)]; rfl) (by omega) (by omega),
  bnd_mk, List.map_id']
 rfl
theorem mark_house {N : Nat} (hN : 67108864 < N) (g : Gx.House) (hs : g.size ≤ 4194303) : ∃ a b c d e f i, ∃ n : Nat, l_markHouse N g 1 = some (a, b, c, d, e, f, i, (n : Int)) := by
 have hc := cntHouse_le g 1
 exact ⟨_, _, _, _, _, _, _, _, p_markHouse hN g 1 (by omega)⟩
theorem marks_house {N : Nat} (hN : 67108864 < N) (g : Gx.House) (hs : g.size ≤ 4194303) : ∃ a b c d e f i, ∃ n : Nat, l_markHouse N g 1 = some (a, b, c, d, e, f, i, (n : Int)) ∧
  l_heldHouse N ⟨a, b, ⟨⟨g.mDesk.mGrid.mRows, g.mDesk.mGrid.mCols, g.mDesk.mGrid.mCells⟩, g.mDesk.mFill, c, g.mDesk.mVersion⟩, d, e, f, i, g.mNow⟩ 1 = some (n : Int) := by
 have hc := cntHouse_le g 1
 have hm := p_markHouse hN g 1 (by omega)
 exact ⟨_, _, _, _, _, _, _, _, hm, p_heldHouse hN g _ 1 rfl rfl rfl rfl rfl rfl rfl (by omega)⟩
theorem szF_ok {a : Nat} {left : Int} (h : ¬ szF a left < 0) : szF a left = left - a ∧ (a : Int) ≤ left := by
 unfold szF at h ⊢
 split
 ·rename_i h1; rw [if_pos h1] at h; omega
 ·rename_i h1; rw [if_neg h1] at h; omega
def stepEnter (N : Nat) (h : Gx.House) (p n : Int) (f : List UInt8) : Gx.House × Bool :=
 if ((issueOf h.mIssues n).2 && (entB N ⟨p, n, h.mNow, f⟩ (issueOf h.mIssues n).1 && !decide ((h.mEntries.length : Int) ≥ 12))) = true then (⟨h.mList, h.mDict, h.mDesk, h.mIssues, h.mUses, h.mCorrections, h.mEntries ++ [⟨p, n, h.mNow, f⟩], h.mNow⟩, true) else (h, false)
theorem p_i_StepEnter {N : Nat} (hN : 67108864 < N) {h : Gx.House} (hx : CpHouse h) (p n : Int) (f : List UInt8) : i_StepEnter N h p n f = some (stepEnter N h p n f) := by
 have hl := hx.ents
 unfold i_StepEnter stepEnter
 rw [p_i_copyHouse hN hx, bnd_mk, p_i_IssueOf hN h n hx.issl hx.iss, bnd_mk, p_i_IsEntry hN _ (cp_of hx.iss _), chk_pos (by simp; omega)]
 cases (issueOf h.mIssues n).2 <;> cases entB N ⟨p, n, h.mNow, f⟩ (issueOf h.mIssues n).1 <;> cases decide ((h.mEntries.length : Int) ≥ 12) <;> rfl
theorem p_s_StepEnter {N : Nat} (hN : 67108864 < N) {h : Gx.House} (hx : CpHouse h) (p n : Int) (f : List UInt8) : s_StepEnter N h p n f = some (stepEnter N h p n f) := by
 have hl := hx.ents
 unfold s_StepEnter stepEnter
 rw [p_s_l33Copy hN hx, bnd_mk, p_s_IssueOf hN h n hx.issl hx.iss, bnd_mk, p_s_IsEntry hN _ (cp_of hx.iss _), chk_pos (by simp; omega)]
 cases (issueOf h.mIssues n).2 <;> cases entB N ⟨p, n, h.mNow, f⟩ (issueOf h.mIssues n).1 <;> cases decide ((h.mEntries.length : Int) ≥ 12) <;> rfl
theorem stepEnter_size (N : Nat) (h : Gx.House) (p n : Int) (f : List UInt8) : (stepEnter N h p n f).1.size ≤ h.size + f.length + 1 := by
 unfold stepEnter
 split
 ·simp only [Gx.House.size, List.length_append, List.map_append, List.sum_append, List.map_cons, List.map_nil, List.sum_cons, List.sum_nil, List.length_cons, List.length_nil, Gx.Entry.size]
  omega
 ·show h.size ≤ h.size + f.length + 1
  omega
theorem p_FnExactStepEnter {N : Nat} (hN : 67108864 < N) (x : Gx.House) (hok : x.ok) (p n : Int) (f : List UInt8) : l_FnExactStepEnter N x p n f = some true := by
 unfold l_FnExactStepEnter
 rw [sel_ite]
 split
 ·rfl
 rename_i hf
 rw [p_szHouse hN x hok (by omega) (by omega), bnd_mk, sel_ite]
 split
 ·rfl
 rename_i h
 obtain ⟨e1, h1⟩ := szF_ok h
 have hs : x.size ≤ 1048576 := by omega
 have hs' := stepEnter_size N x p n f
 obtain ⟨a, b, c, d, e, f', i, m, hm⟩ := mark_house hN x (by omega)
 obtain ⟨a', b', c', d', e', f'', i', m', hm', hh⟩ := marks_house hN (stepEnter N x p n f).1 (by omega)
 have hq := p_eqHouse hN (stepEnter N x p n f).1 (stepEnter N x p n f).1 (by omega)
 simp only [bnd_mk, p_toHouse hN x hs, p_i_StepEnter hN (cp_house hs), p_s_StepEnter hN (cp_house hs), p_eqHouse hN x x (by omega), hq, hm, hm', hh, bne_self_eq_false, sel_false, decide_true, Bool.not_true, sel_neg (show ¬ ((m : Int) < 0) by omega), sel_neg (show ¬ ((m' : Int) < 0) by omega)]
end Lw
end Go.Proofs
