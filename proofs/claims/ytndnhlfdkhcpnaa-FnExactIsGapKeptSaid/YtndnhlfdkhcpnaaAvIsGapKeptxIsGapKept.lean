/- plain laws -/
import Derived.Test.YtndnhlfdkhcpnaaAvM4xIsGapKept
namespace Go.Proofs
open Go Go.Av
set_option maxRecDepth 100000
set_option maxHeartbeats 4000000
set_option linter.unusedVariables false
set_option linter.unusedSimpArgs false
namespace Lw
theorem loop_all0I {α β : Type} {l : List α} {step : Int → Option (Sum Int (Cut Unit β))} (p : Nat → α → Bool) {b : β} {N : Nat}
    (hs : ∀ i x, l[i]? = some x → i < l.length → step (i : Int) = if p i x = true then some (.inl (w64 ((i : Int) + 1))) else some (.inr (.rt b))) (he : step (l.length : Int) = some (.inr (.nx ())))
    (hl : l.length ≤ 4611686018427387904) (hN : l.length < N) : loopN step N 0 = some (if allI p l 0 = true then Cut.nx () else Cut.rt b) :=
  loopN_list (N := N) (step := step) (fun i (a : Nat) => (i : Int)) l (fun r a => if allI p r a = true then Cut.nx () else Cut.rt b) (fun i a => a = i) (a := 0) rfl
    (fun a ha => by rw [he]; rfl)
    (fun i a x r ha hx hr hi => by
      subst ha
      rw [hs a x hx hi]
      by_cases h : p a x = true
      · left; rw [if_pos h, w64_nat (by omega)]
        exact ⟨a + 1, rfl, rfl, by simp only [allI, h, Bool.true_and]⟩
      · right; rw [if_neg h]
        have : p a x = false := by simpa using h
        simp only [allI, this, Bool.false_and, Bool.false_eq_true, if_false]) hN
theorem loop_all0 {α β : Type} {l : List α} {step : Int → Option (Sum Int (Cut Unit β))} (p : α → Bool) {b : β} {N : Nat}
    (hs : ∀ i x, l[i]? = some x → i < l.length → step (i : Int) = if p x = true then some (.inl (w64 ((i : Int) + 1))) else some (.inr (.rt b))) (he : step (l.length : Int) = some (.inr (.nx ())))
    (hl : l.length ≤ 4611686018427387904) (hN : l.length < N) : loopN step N 0 = some (if l.all p = true then Cut.nx () else Cut.rt b) := by
  rw [loop_all0I (fun _ => p) hs he hl hN, allI_all]
def wordsI (x : Gx.Issue) : List (List UInt8) := wordsIn x.mPuzzle.mGrid x.mFill
def clampI (n : Int) : Int := min (max n (-2000)) 2000
theorem clamp_in (n : Int) : -2000 ≤ clampI n ∧ clampI n ≤ 2000 := by unfold clampI; omega
def near (x y : Gx.Issue) : Bool := !(decide (max (clampI x.mNumber - clampI y.mNumber) (clampI y.mNumber - clampI x.mNumber) > 2))
def clash (x y : Gx.Issue) : Bool := near x y && (wordsI x).any fun w => decide (w ∈ wordsI y)
def gapKept (l : List Gx.Issue) : Bool := allI (fun i x => (l.take i).all fun y => !clash x y) l 0
def IssSmall (x : Gx.Issue) : Prop := x.mPuzzle.mGrid.mCells.length ≤ 1048576
theorem iss_small {h : Gx.House} (hs : h.size ≤ 1048576) : h.mIssues.length ≤ 1048576 ∧ ∀ x ∈ h.mIssues, IssSmall x := by
  unfold Gx.House.size at hs
  refine ⟨by omega, fun x hx => ?_⟩
  have h2 : x.size ≤ (h.mIssues.map (fun e : Gx.Issue => e.size)).sum := mem_sum (fun e : Gx.Issue => e.size) hx
  have h3 : x.mPuzzle.mGrid.mCells.length ≤ x.size := by unfold Gx.Issue.size Gx.Puzzle.size Gx.Grid.size; omega
  unfold IssSmall
  omega
theorem p_i_words {N : Nat} (hN : 1048577 < N) (x : Gx.Issue) : i_Issue_words N x = some (wordsI x) := by
  unfold i_Issue_words wordsI
  rw [p_i_WordsIn hN, bnd_mk]
theorem p_s_words {N : Nat} (hN : 1048577 < N) (x : Gx.Issue) (hx : IssSmall x) : s_l36Words N x = some (wordsI x) := by
  unfold s_l36Words wordsI
  rw [p_s_WordsIn hN _ _ hx, bnd_mk]
theorem wordsI_len (x : Gx.Issue) : (wordsI x).length ≤ 72 := wordsIn_len _ _
theorem any_all (l : List (List UInt8)) (p : List UInt8 → Bool) : (l.all fun w => !p w) = !l.any p := by
  rw [List.all_eq_not_any_not]; simp only [Bool.not_not]
theorem p_i_IsGapKept {N : Nat} (hN : 1048577 < N) (h : Gx.House) (hl : h.mIssues.length ≤ 1048576) : i_IsGapKept N h = some (gapKept h.mIssues) := by
  unfold i_IsGapKept gapKept
  rw [loop_allI (γ := Unit) (l := h.mIssues) (fun i x => (h.mIssues.take i).all fun y => !clash x y) (b := false) (fun i x hx hi => by
    unfold i_IsGapKept_L1
    rw [sel_pos (by omega), getI_nat hx, bnd_mk, chk_pos ⟨by omega, by omega, by omega⟩]
    have hsub : sub h.mIssues 0 (i : Int) = h.mIssues.take i := by unfold sub; simp
    rw [loop_all0 (N := N) (l := h.mIssues.take i) (step := i_IsGapKept_L2 N h (i : Int) x) (fun y => !clash x y) (b := .inr (.rt false)) (fun k y hy hk => by
      unfold i_IsGapKept_L2 i_clamp
      rw [hsub, sel_pos (by omega), getI_nat hy]
      simp only [bnd_mk]
      have c1 := clamp_in x.mNumber
      have c2 := clamp_in y.mNumber
      have e1 : min (max x.mNumber (-2000)) 2000 = clampI x.mNumber := rfl
      have e2 : min (max y.mNumber (-2000)) 2000 = clampI y.mNumber := rfl
      rw [e1, e2, w64_in (n := clampI x.mNumber - clampI y.mNumber) (by omega) (by omega), w64_in (n := clampI y.mNumber - clampI x.mNumber) (by omega) (by omega)]
      unfold clash near
      cases hd : decide (max (clampI x.mNumber - clampI y.mNumber) (clampI y.mNumber - clampI x.mNumber) > 2) with
      | true => rw [sel_true, cutb_nx]; rfl
      | false =>
        have hw := wordsI_len x
        rw [sel_false, p_i_words hN, bnd_mk, loop_all0 (N := N) (l := wordsI x) (step := i_IsGapKept_L3 N (wordsI x) y) (fun w => !decide (w ∈ wordsI y)) (b := .inr (.rt (.inr (.rt false)))) (fun j w hw' hj => by
          have hy72 := wordsI_len y
          unfold i_IsGapKept_L3
          rw [sel_pos (by omega), getI_nat hw', bnd_mk, p_i_words hN, bnd_mk, p_i_HasWord _ _ (by omega) (by omega), bnd_mk]
          cases decide (w ∈ wordsI y) <;> rfl) (by unfold i_IsGapKept_L3; rw [sel_neg (by omega)]) (by omega) (by omega), any_all]
        cases (wordsI x).any fun w => decide (w ∈ wordsI y) <;> rfl) (by unfold i_IsGapKept_L2; rw [hsub, sel_neg (by omega)]) (by simp; omega) (by simp; omega)]
    cases (h.mIssues.take i).all fun y => !clash x y <;> rfl) (by unfold i_IsGapKept_L1; rw [sel_neg (by omega)]) (by omega) (by omega)]
  split <;> simp_all
theorem p_s_Min (N : Nat) (a b : Int) : s_Min N a b = some (min a b) := by
  unfold s_Min; rw [sel_ite]; split <;> congr 1 <;> omega
theorem p_s_Max (N : Nat) (a b : Int) : s_Max N a b = some (max a b) := by
  unfold s_Max; rw [sel_ite]; split <;> congr 1 <;> omega
theorem p_s_IsGapKept {N : Nat} (hN : 1048577 < N) (h : Gx.House) (hl : h.mIssues.length ≤ 1048576) (hsm : ∀ x ∈ h.mIssues, IssSmall x) : s_IsGapKept N h = some (gapKept h.mIssues) := by
  unfold s_IsGapKept gapKept
  rw [loop_allI (γ := Unit) (l := h.mIssues) (fun i x => (h.mIssues.take i).all fun y => !clash x y) (b := false) (fun i x hx hi => by
    have hxs := hsm x (List.mem_of_getElem? hx)
    unfold s_IsGapKept_L1
    rw [sel_pos (by omega)]
    rw [loop_all0 (N := N) (l := h.mIssues.take i) (step := s_IsGapKept_L2 N (i : Int) h) (fun y => !clash x y) (b := .inr (.rt false)) (fun k y hy hk => by
      have hk2 : k < i := by rw [List.length_take] at hk; omega
      have hy2 : h.mIssues[k]? = some y := by rw [List.getElem?_take] at hy; rw [if_pos hk2] at hy; exact hy
      have hys := hsm y (List.mem_of_getElem? hy2)
      unfold s_IsGapKept_L2
      rw [sel_pos (by omega), getI_nat hx, getI_nat hy2]
      simp only [bnd_mk, p_s_Min, p_s_Max]
      have c1 := clamp_in x.mNumber
      have c2 := clamp_in y.mNumber
      have e1 : max (-2000) (min 2000 x.mNumber) = clampI x.mNumber := by unfold clampI; omega
      have e2 : max (-2000) (min 2000 y.mNumber) = clampI y.mNumber := by unfold clampI; omega
      rw [e1, e2, w64_in (n := clampI x.mNumber - clampI y.mNumber) (by omega) (by omega), w64_in (n := clampI y.mNumber - clampI x.mNumber) (by omega) (by omega)]
      unfold clash near
      cases hd : decide (max (clampI x.mNumber - clampI y.mNumber) (clampI y.mNumber - clampI x.mNumber) > 2) with
      | true => rw [sel_true, cutb_nx]; rfl
      | false =>
        have hw := wordsI_len x
        rw [sel_false, p_s_words hN x hxs, bnd_mk, loop_all0 (N := N) (l := wordsI x) (step := s_IsGapKept_L3 N (wordsI x) h (k : Int)) (fun w => !decide (w ∈ wordsI y)) (b := .inr (.rt (.inr (.rt false)))) (fun j w hw' hj => by
          have hy72 := wordsI_len y
          unfold s_IsGapKept_L3
          rw [sel_pos (by omega), getI_nat hy2, bnd_mk, p_s_words hN y hys, bnd_mk, getI_nat hw', bnd_mk, p_s_HasWord _ _ (by omega) (by omega), bnd_mk]
          cases decide (w ∈ wordsI y) <;> rfl) (by unfold s_IsGapKept_L3; rw [sel_neg (by omega)]) (by omega) (by omega), any_all]
        cases (wordsI x).any fun w => decide (w ∈ wordsI y) <;> rfl) (by
          have : (h.mIssues.take i).length = i := by rw [List.length_take]; omega
          unfold s_IsGapKept_L2; rw [this, sel_neg (by omega)]) (by simp; omega) (by simp; omega)]
    cases (h.mIssues.take i).all fun y => !clash x y <;> rfl) (by unfold s_IsGapKept_L1; rw [sel_neg (by omega)]) (by omega) (by omega)]
  split <;> simp_all
theorem p_FnExactIsGapKept {N : Nat} (hN : 1048577 < N) (x : Gx.House) (hok : x.ok) : l_FnExactIsGapKept N x = some true := by
  unfold l_FnExactIsGapKept
  rw [p_szHouse hN x hok (by omega) (by omega), bnd_mk, sel_ite]
  split
  · rfl
  · rename_i h
    have hs : x.size ≤ 1048576 := by unfold szF at h; split at h <;> omega
    obtain ⟨h1, h2⟩ := iss_small hs
    rw [p_toHouse hN x hs]
    simp only [bnd_mk, p_s_IsGapKept hN x h1 h2, p_i_IsGapKept hN x h1, p_eqHouse hN x x hs, bne_self_eq_false, sel_false, decide_true, Bool.not_true]
end Lw
end Go.Proofs
