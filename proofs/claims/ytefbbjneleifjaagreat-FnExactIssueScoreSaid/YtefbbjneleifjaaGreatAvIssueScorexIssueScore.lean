/- plain laws -/
import Derived.Test.YtefbbjneleifjaaGreatAvM5xIssueScore
namespace Go.Proofs
open Go Go.Av
set_option maxRecDepth 100000
set_option maxHeartbeats 4000000
set_option linter.unusedVariables false
set_option linter.unusedSimpArgs false
namespace Lw
structure CpIss (x : Gx.Issue) : Prop where
  clues : x.mPuzzle.mClues.length ≤ 1048576
  play : ∀ c ∈ x.mPuzzle.mClues, c.mPlay.length ≤ 1048576
  seals : x.mPuzzle.mSeals.length ≤ 1048576
  cells : x.mPuzzle.mGrid.mCells.length ≤ 1048576
theorem cp_clue {c : Gx.Clue} : c.mPlay.length ≤ c.size := by
  unfold Gx.Clue.size
  omega
theorem cp_iss {x : Gx.Issue} (hs : x.size ≤ 1048576) : CpIss x := by
  unfold Gx.Issue.size Gx.Puzzle.size Gx.Grid.size at hs
  refine ⟨by omega, fun c hc => ?_, by omega, by omega⟩
  have h2 : c.size ≤ (x.mPuzzle.mClues.map (fun e : Gx.Clue => e.size)).sum := mem_sum (fun e : Gx.Clue => e.size) hc
  have h3 := @cp_clue c
  omega
theorem cp_issues {h : Gx.House} (hs : h.size ≤ 1048576) : h.mIssues.length ≤ 1048576 ∧ ∀ x ∈ h.mIssues, CpIss x := by
  unfold Gx.House.size at hs
  refine ⟨by omega, fun x hx => cp_iss ?_⟩
  have h2 : x.size ≤ (h.mIssues.map (fun e : Gx.Issue => e.size)).sum := mem_sum (fun e : Gx.Issue => e.size) hx
  omega
theorem p_i_copyClues {N : Nat} (hN : 1048577 < N) (l : List Gx.Clue) (hl : l.length ≤ 1048576) (hp : ∀ c ∈ l, c.mPlay.length ≤ 1048576) : i_copyClues N l = some l := by
  unfold i_copyClues
  rw [loop_map (N := N) (l := l) (fun x => x) (fi := id) (fun i x a hx hi ha => by
    have hc := hp x (List.mem_of_getElem? hx)
    unfold i_copyClues_L1 i_copyClue g_slices_Clone_Simpl_Step_impl_Step
    simp only
    rw [sel_pos (by omega), getI_nat hx, bnd_mk, chk_pos (by omega), bnd_mk, bnd_mk, chk_pos (by simp; omega)]) (fun a => by unfold i_copyClues_L1; rw [sel_neg (by simp)]; rfl) (by omega) (by omega)]
  simp
theorem p_s_l21Clues {N : Nat} (hN : 1048577 < N) (l : List Gx.Clue) (hl : l.length ≤ 1048576) (hp : ∀ c ∈ l, c.mPlay.length ≤ 1048576) : s_l21Clues N l = some l := by
  unfold s_l21Clues
  rw [loop_map (N := N) (l := l) (fun x => x) (fi := id) (fun i x a hx hi ha => by
    have hc := hp x (List.mem_of_getElem? hx)
    unfold s_l21Clues_L1 s_l18Copy
    simp only
    rw [sel_pos (by omega), getI_nat hx, bnd_mk, chk_pos (by simp; omega), bnd_mk, chk_pos (by simp; omega)]) (fun a => by unfold s_l21Clues_L1; rw [sel_neg (by simp)]; rfl) (by omega) (by omega)]
  simp
theorem p_i_copyIssue {N : Nat} (hN : 1048577 < N) {x : Gx.Issue} (hx : CpIss x) : i_copyIssue N x = some x := by
  unfold i_copyIssue i_copyPuzzle g_slices_Clone_Sint_int
  rw [p_i_copyClues hN _ hx.clues hx.play, bnd_mk, chk_pos (by have := hx.seals; omega)]
  rfl
theorem p_s_l30Copy {N : Nat} (hN : 1048577 < N) {x : Gx.Issue} (hx : CpIss x) : s_l30Copy N x = some x := by
  unfold s_l30Copy s_l21Copy
  rw [p_s_l21Clues hN _ hx.clues hx.play, bnd_mk, chk_pos (by have := hx.seals; simp; omega)]
  rfl
def noIss : Gx.Issue := ⟨0, ⟨⟨0, 0, []⟩, [], [], 0⟩, [], 0, 0⟩
def issueOf (l : List Gx.Issue) (n : Int) : Gx.Issue × Bool := firstV (fun _ (x : Gx.Issue) => if (x.mNumber == n) = true then some (x, true) else none) l 0 (noIss, false)
theorem issueOf_in (l : List Gx.Issue) (n : Int) : issueOf l n = (noIss, false) ∨ ((issueOf l n).2 = true ∧ (issueOf l n).1 ∈ l ∧ (issueOf l n).1.mNumber = n) :=
  firstV_mem (fun _ (x : Gx.Issue) => if (x.mNumber == n) = true then some (x, true) else none) (fun y => y = (noIss, false) ∨ (y.2 = true ∧ y.1 ∈ l ∧ y.1.mNumber = n)) (.inl rfl) l 0 (fun k x y hx hy => by
    split at hy
    · rename_i he
      simp only [Option.some.injEq] at hy
      subst hy
      exact .inr ⟨rfl, List.mem_of_getElem? hx, by simpa using he⟩
    · cases hy)
theorem first_cut {α β : Type} (f : Nat → α → Option β) (z : β) : ∀ (l : List α) (i : Nat), cutb (some (firstV (fun i x => (f i x).map Cut.rt) l i (Cut.nx ()))) (fun _ => some z) = some (firstV f l i z)
  | [], i => rfl
  | x :: r, i => by
    simp only [firstV]
    cases f i x with
    | some y => rfl
    | none => exact first_cut f z r (i + 1)
theorem p_i_IssueOf {N : Nat} (hN : 1048577 < N) (h : Gx.House) (n : Int) (hl : h.mIssues.length ≤ 1048576) (hc : ∀ x ∈ h.mIssues, CpIss x) : i_IssueOf N h n = some (issueOf h.mIssues n) := by
  unfold i_IssueOf
  rw [loop_first (N := N) (l := h.mIssues) (fun i (x : Gx.Issue) => (if (x.mNumber == n) = true then some (x, true) else none).map Cut.rt) (b := Cut.nx ()) (fun i x hx hi => by
    unfold i_IssueOf_L1
    rw [sel_pos (by omega), getI_nat hx, bnd_mk, p_i_copyIssue hN (hc x (List.mem_of_getElem? hx))]
    cases x.mNumber == n <;> rfl) (by unfold i_IssueOf_L1; rw [sel_neg (by omega)]) (by omega) (by omega)]
  exact first_cut (fun _ (x : Gx.Issue) => if (x.mNumber == n) = true then some (x, true) else none) _ _ 0
theorem p_s_IssueOf {N : Nat} (hN : 1048577 < N) (h : Gx.House) (n : Int) (hl : h.mIssues.length ≤ 1048576) (hc : ∀ x ∈ h.mIssues, CpIss x) : s_IssueOf N h n = some (issueOf h.mIssues n) := by
  unfold s_IssueOf
  rw [loop_first (N := N) (l := h.mIssues) (fun i (x : Gx.Issue) => (if (x.mNumber == n) = true then some (x, true) else none).map Cut.rt) (b := Cut.nx ()) (fun i x hx hi => by
    unfold s_IssueOf_L1
    rw [sel_pos (by omega), getI_nat hx, bnd_mk, bnd_mk, p_s_l30Copy hN (hc x (List.mem_of_getElem? hx))]
    cases x.mNumber == n <;> rfl) (by unfold s_IssueOf_L1; rw [sel_neg (by omega)]) (by omega) (by omega)]
  exact first_cut (fun _ (x : Gx.Issue) => if (x.mNumber == n) = true then some (x, true) else none) _ _ 0
theorem words_none : wordsI noIss = [] := by rfl
theorem score_nil (l : List Gx.Listed) : scoreL l [] = 0 := by unfold scoreL; split <;> rfl
def issueScore (h : Gx.House) (n : Int) : Int := scoreL h.mList (wordsI (issueOf h.mIssues n).1)
theorem p_i_IssueScore {N : Nat} (hN : 1048577 < N) (h : Gx.House) (n : Int) (hs : h.size ≤ 1048576) : i_IssueScore N h n = some (issueScore h n) := by
  obtain ⟨h1, h2⟩ := cp_issues hs
  have hL : h.mList.length ≤ 1048576 := by unfold Gx.House.size at hs; omega
  have hw := wordsI_len (issueOf h.mIssues n).1
  unfold i_IssueScore issueScore
  rw [p_i_IssueOf hN h n h1 h2, bnd_mk, p_i_words hN, bnd_mk, p_i_ScoreOf hN _ hL _ (by omega), bnd_mk]
theorem p_s_IssueScore {N : Nat} (hN : 1048577 < N) (h : Gx.House) (n : Int) (hs : h.size ≤ 1048576) : s_IssueScore N h n = some (issueScore h n) := by
  obtain ⟨h1, h2⟩ := cp_issues hs
  have hL : h.mList.length ≤ 1048576 := by unfold Gx.House.size at hs; omega
  unfold s_IssueScore issueScore
  rw [p_s_IssueOf hN h n h1 h2, bnd_mk]
  rcases issueOf_in h.mIssues n with e | ⟨e1, e2, e3⟩
  · rw [e]
    show some 0 = some (scoreL h.mList (wordsI noIss))
    rw [words_none, score_nil]
  · have hw := wordsI_len (issueOf h.mIssues n).1
    rw [e1, Bool.not_true, sel_false, p_s_words hN _ (h2 _ e2).cells, bnd_mk, p_s_ScoreOf hN _ hL _ (by omega), bnd_mk]
theorem p_FnExactIssueScore {N : Nat} (hN : 1048577 < N) (x : Gx.House) (hok : x.ok) (n : Int) : l_FnExactIssueScore N x n = some true := by
  unfold l_FnExactIssueScore
  rw [p_szHouse hN x hok (by omega) (by omega), bnd_mk, sel_ite]
  split
  · rfl
  · rename_i h
    have hs : x.size ≤ 1048576 := by unfold szF at h; split at h <;> omega
    rw [p_toHouse hN x hs]
    simp only [bnd_mk, p_s_IssueScore hN x n hs, p_i_IssueScore hN x n hs, p_eqHouse hN x x hs, bne_self_eq_false, sel_false, decide_true, Bool.not_true]
end Lw
end Go.Proofs
