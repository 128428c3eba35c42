/- plain laws -/
import Derived.Test.YtppbkdpofmplaaaAvPhIssueOf
namespace Go.Proofs
open Go Go.Av
set_option maxRecDepth 100000
set_option maxHeartbeats 4000000
set_option linter.unusedVariables false
set_option linter.unusedSimpArgs false
namespace Lw
/-- the first, or out -/
def firstV {α β : Type} (f : Nat → α → Option β) : List α → Nat → β → β
 | [], _, b => b
 | x :: r, i, b => match f i x with | some y => y | none => firstV f r (i + 1) b
theorem loop_first {α β : Type} {l : List α} {step : Int → Option (Sum Int β)} (f : Nat → α → Option β) {b : β} {N : Nat}
  (hs : ∀ i x, l[i]? = some x → i < l.length → step (i : Int) = some (match f i x with | some y => .inr y | none => .inl (w64 ((i : Int) + 1)))) (he : step (l.length : Int) = some (.inr b))
  (hl : l.length ≤ 4611686018427387904) (hN : l.length < N) : loopN step N 0 = some (firstV f l 0 b) :=
 loopN_list (N := N) (step := step) (fun i (a : Nat) => (i : Int)) l (fun r a => firstV f r a b) (fun i a => a = i) (a := 0) rfl
  (fun a ha => by rw [he]; rfl)
  (fun i a x r ha hx hr hi => by
   subst ha
   rw [hs a x hx hi]
   simp only [firstV]
   cases f a x with
   | some y => right; rfl
   | none => left; rw [w64_nat (by omega)]; exact ⟨a + 1, rfl, rfl, rfl⟩) hN
theorem firstV_mem {α β : Type} (f : Nat → α → Option β) (p : β → Prop) {b : β} (hb : p b) : ∀ (l : List α) (i : Nat), (∀ k x y, l[k]? = some x → f (i + k) x = some y → p y) → p (firstV f l i b)
 | [], i, _ => hb
 | x :: r, i, h => by
  simp only [firstV]
  cases hf : f i x with
  | some y => exact h 0 x y rfl hf
  | none => exact firstV_mem f p hb r (i + 1) fun k z y hz hy => h (k + 1) z y (by simpa using hz) (by rw [show i + (k + 1) = i + 1 + k by omega]; exact hy)
structure CpIss (x : Gx.Issue) : Prop where
 clues : x.mPuzzle.mClues.length ≤ 1048576
 play : ∀ c ∈ x.mPuzzle.mClues, c.mPlay.length ≤ 1048576
 seals : x.mPuzzle.mSeals.length ≤ 1048576
 cells : x.mPuzzle.mGrid.mCells.length ≤ 1048576
theorem cp_clue {c : Gx.Clue} : c.mPlay.length ≤ c.size := by
 unfold Gx.Clue.size
 omega
theorem cp_iss {x : Gx.Issue} (hs : x.size ≤ 1048576) : CpIss x := by
 unfold Gx.Issue.size Gx.Puzzle.size Gx.Grid.size at hs
 refine ⟨by omega, fun c hc => ?_, by omega, by omega⟩
 have h2 : c.size ≤ (x.mPuzzle.mClues.map (fun e : Gx.Clue => e.size)).sum := mem_sum (fun e : Gx.Clue => e.size) hc
 have h3 := @cp_clue c
 omega
theorem cp_issues {h : Gx.House} (hs : h.size ≤ 1048576) : h.mIssues.length ≤ 1048576 ∧ ∀ x ∈ h.mIssues, CpIss x := by
 unfold Gx.House.size at hs
 refine ⟨by omega, fun x hx => cp_iss ?_⟩
 have h2 : x.size ≤ (h.mIssues.map (fun e : Gx.Issue => e.size)).sum := mem_sum (fun e : Gx.Issue => e.size) hx
 omega
theorem p_i_copyClues {N : Nat} (hN : 67108864 < N) (l : List Gx.Clue) (hl : l.length ≤ 1048576) (hp : ∀ c ∈ l, c.mPlay.length ≤ 1048576) : i_copyClues N l = some l := by
 unfold i_copyClues
 rw [loop_map (N := N) (l := l) (fun x => x) (fi := id) (fun i x a hx hi ha => by
  have hc := hp x (List.mem_of_getElem? hx)
  unfold i_copyClues_L1 i_copyClue g_slices_Clone_Simpl_Step_impl_Step
  simp only
  rw [sel_pos (by omega), getI_nat hx, bnd_mk, chk_pos (by omega), bnd_mk, bnd_mk, chk_pos (by simp; omega)]) (fun a => by unfold i_copyClues_L1; rw [sel_neg (by simp)]; rfl) (by omega) (by omega)]
 simp
theorem p_s_l21Clues {N : Nat} (hN : 67108864 < N) (l : List Gx.Clue) (hl : l.length ≤ 1048576) (hp : ∀ c ∈ l, c.mPlay.length ≤ 1048576) : s_l21Clues N l = some l := by
 unfold s_l21Clues
 rw [loop_map (N := N) (l := l) (fun x => x) (fi := id) (fun i x a hx hi ha => by
  have hc := hp x (List.mem_of_getElem? hx)
  unfold s_l21Clues_L1 s_l18Copy
  simp only
  rw [sel_pos (by omega), getI_nat hx, bnd_mk, chk_pos (by simp; omega), bnd_mk, chk_pos (by simp; omega)]) (fun a => by unfold s_l21Clues_L1; rw [sel_neg (by simp)]; rfl) (by omega) (by omega)]
 simp
theorem p_i_copyIssue {N : Nat} (hN : 67108864 < N) {x : Gx.Issue} (hx : CpIss x) : i_copyIssue N x = some x := by
 unfold i_copyIssue i_copyPuzzle g_slices_Clone_Sint_int
 rw [p_i_copyClues hN _ hx.clues hx.play, bnd_mk, chk_pos (by have := hx.seals; omega)]
 rfl
theorem p_s_l30Copy {N : Nat} (hN : 67108864 < N) {x : Gx.Issue} (hx : CpIss x) : s_l30Copy N x = some x := by
 unfold s_l30Copy s_l21Copy
 rw [p_s_l21Clues hN _ hx.clues hx.play, bnd_mk, chk_pos (by have := hx.seals; simp; omega)]
 rfl
def noIss : Gx.Issue := ⟨0, ⟨⟨0, 0, []⟩, [], [], 0⟩, [], 0, 0⟩
def issueOf (l : List Gx.Issue) (n : Int) : Gx.Issue × Bool := firstV (fun _ (x : Gx.Issue) => if (x.mNumber == n) = true then some (x, true) else none) l 0 (noIss, false)
theorem issueOf_in (l : List Gx.Issue) (n : Int) : issueOf l n = (noIss, false) ∨ ((issueOf l n).2 = true ∧ (issueOf l n).1 ∈ l ∧ (issueOf l n).1.mNumber = n) :=
 firstV_mem (fun _ (x : Gx.Issue) => if (x.mNumber == n) = true then some (x, true) else none) (fun y => y = (noIss, false) ∨ (y.2 = true ∧ y.1 ∈ l ∧ y.1.mNumber = n)) (.inl rfl) l 0 (fun k x y hx hy => by
  split at hy
  ·rename_i he
   simp only [Option.some.injEq] at hy
   subst hy
   exact .inr ⟨rfl, List.mem_of_getElem? hx, by simpa using he⟩
  ·cases hy)
theorem first_cut {α β : Type} (f : Nat → α → Option β) (z : β) : ∀ (l : List α) (i : Nat), cutb (some (firstV (fun i x => (f i x).map Cut.rt) l i (Cut.nx ()))) (fun _ => some z) = some (firstV f l i z)
 | [], i => rfl
 | x :: r, i => by
  simp only [firstV]
  cases f i x with
  | some y => rfl
  | none => exact first_cut f z r (i + 1)
theorem p_i_IssueOf {N : Nat} (hN : 67108864 < N) (h : Gx.House) (n : Int) (hl : h.mIssues.length ≤ 1048576) (hc : ∀ x ∈ h.mIssues, CpIss x) : i_IssueOf N h n = some (issueOf h.mIssues n) := by
 unfold i_IssueOf
 rw [loop_first (N := N) (l := h.mIssues) (fun i (x : Gx.Issue) => (if (x.mNumber == n) = true then some (x, true) else none).map Cut.rt) (b := Cut.nx ()) (fun i x hx hi => by
  unfold i_IssueOf_L1
  rw [sel_pos (by omega), getI_nat hx, bnd_mk, p_i_copyIssue hN (hc x (List.mem_of_getElem? hx))]
  cases x.mNumber == n <;> rfl) (by unfold i_IssueOf_L1; rw [sel_neg (by omega)]) (by omega) (by omega)]
 exact first_cut (fun _ (x : Gx.Issue) => if (x.mNumber == n) = true then some (x, true) else none) _ _ 0
theorem p_s_IssueOf {N : Nat} (hN : 67108864 < N) (h : Gx.House) (n : Int) (hl : h.mIssues.length ≤ 1048576) (hc : ∀ x ∈ h.mIssues, CpIss x) : s_IssueOf N h n = some (issueOf h.mIssues n) := by
 unfold s_IssueOf
 rw [loop_first (N := N) (l := h.mIssues) (fun i (x : Gx.Issue) => (if (x.mNumber == n) = true then some (x, true) else none).map Cut.rt) (b := Cut.nx ()) (fun i x hx hi => by
  unfold s_IssueOf_L1
  rw [sel_pos (by omega), getI_nat hx, bnd_mk, bnd_mk, p_s_l30Copy hN (hc x (List.mem_of_getElem? hx))]
  cases x.mNumber == n <;> rfl) (by unfold s_IssueOf_L1; rw [sel_neg (by omega)]) (by omega) (by omega)]
 exact first_cut (fun _ (x : Gx.Issue) => if (x.mNumber == n) = true then some (x, true) else none) _ _ 0
theorem mark_house {N : Nat} (hN : 67108864 < N) (g : Gx.House) (hs : g.size ≤ 4194303) : ∃ a b c d e f i, ∃ n : Nat, l_markHouse N g 1 = some (a, b, c, d, e, f, i, (n : Int)) := by
 have hc := cntHouse_le g 1
 exact ⟨_, _, _, _, _, _, _, _, p_markHouse hN g 1 (by omega)⟩
theorem marks_issue {N : Nat} (hN : 67108864 < N) (g : Gx.Issue) (hs : g.size ≤ 4194303) : ∃ a b, ∃ n : Nat, l_markIssue N g 1 = some (a, b, (n : Int)) ∧
  l_heldIssue N ⟨g.mNumber, ⟨⟨g.mPuzzle.mGrid.mRows, g.mPuzzle.mGrid.mCols, g.mPuzzle.mGrid.mCells⟩, a, b, g.mPuzzle.mSalt⟩, g.mFill, g.mOpen, g.mClose⟩ 1 = some (n : Int) := by
 have hc := cntIssue_le g 1
 have hm := p_markIssue hN g 1 (by omega)
 exact ⟨_, _, _, hm, p_heldIssue hN g _ 1 rfl rfl (by omega)⟩
theorem issueOf_size (h : Gx.House) (n : Int) : (issueOf h.mIssues n).1.size ≤ h.size := by
 rcases issueOf_in h.mIssues n with e | ⟨_, e, _⟩
 ·rw [e]; exact Nat.zero_le _
 ·have h2 : (issueOf h.mIssues n).1.size ≤ (h.mIssues.map (fun e : Gx.Issue => e.size)).sum := mem_sum (fun e : Gx.Issue => e.size) e
  unfold Gx.House.size
  omega
theorem p_FnExactIssueOf {N : Nat} (hN : 67108864 < N) (x : Gx.House) (hok : x.ok) (n : Int) : l_FnExactIssueOf N x n = some true := by
 unfold l_FnExactIssueOf
 rw [p_szHouse hN x hok (by omega) (by omega), bnd_mk, sel_ite]
 split
 ·rfl
 ·rename_i h
  have hs : x.size ≤ 1048576 := by unfold szF at h; split at h <;> omega
  have hs' := issueOf_size x n
  obtain ⟨h1, h2⟩ := cp_issues hs
  rw [p_toHouse hN x hs]
  obtain ⟨a, b, c, d, e, f, i, m, hm⟩ := mark_house hN x (by omega)
  obtain ⟨a', b', m', hm', hh⟩ := marks_issue hN (issueOf x.mIssues n).1 (by omega)
  have hq := p_eqIssue hN (issueOf x.mIssues n).1 (issueOf x.mIssues n).1 (by omega)
  simp only [bnd_mk, p_i_IssueOf hN x n h1 h2, p_s_IssueOf hN x n h1 h2, p_eqHouse hN x x (by omega), hq, hm, hm', hh, bne_self_eq_false, sel_false, decide_true, Bool.not_true, sel_neg (show ¬ ((m : Int) < 0) by omega), sel_neg (show ¬ ((m' : Int) < 0) by omega)]
end Lw
end Go.Proofs
