/- plain laws -/
import Derived.Test.YtefbbjneleifjaaGreatAvIsGapKeptxIssueScore
namespace Go.Proofs
open Go Go.Av
set_option maxRecDepth 100000
set_option maxHeartbeats 4000000
set_option linter.unusedVariables false
set_option linter.unusedSimpArgs false
namespace Lw
def isWord (s : List UInt8) : Bool := decide (1 ≤ s.length ∧ s.length ≤ 8) && s.all isLet
theorem p_i_IsWord {N : Nat} (hN : 1048577 < N) (s : List UInt8) : i_IsWord N s = some (isWord s) := by
  unfold i_IsWord i_InRange isWord
  by_cases h : 1 ≤ s.length ∧ s.length ≤ 8
  · rw [sel_pos (by omega), bnd_mk, decide_eq_true (p := ((s.length : Int) ≤ 8)) (by omega), Bool.not_true, sel_false, loop_all (N := N) (l := s) isLet (b := false) (fun i c hc hi => by
      unfold i_IsWord_L1
      rw [sel_pos (by omega), chk_pos (by omega), byteI_nat hc, p_i_isLetter, bnd_mk]
      cases isLet c <;> rfl) (by unfold i_IsWord_L1; rw [sel_neg (by omega)]) (by omega) (by omega), decide_eq_true h]
    cases s.all isLet <;> rfl
  · rw [decide_eq_false h, Bool.false_and, sel_ite]
    split
    · rw [bnd_mk, decide_eq_false (p := ((s.length : Int) ≤ 8)) (by omega)]; rfl
    · rfl
theorem p_s_IsWord {N : Nat} (hN : 1048577 < N) (s : List UInt8) : s_IsWord N s = some (isWord s) := by
  unfold s_IsWord s_l1In isWord
  by_cases h : 1 ≤ s.length ∧ s.length ≤ 8
  · rw [sel_pos (by omega), bnd_mk, decide_eq_true (p := ((s.length : Int) ≤ 8)) (by omega), Bool.not_true, sel_false, loop_all (N := N) (l := s) isLet (b := false) (fun i c hc hi => by
      unfold s_IsWord_L1
      rw [sel_pos (by omega), chk_pos (by omega), byteI_nat hc]
      unfold isLet
      by_cases h1 : 97 ≤ c.toNat
      · rw [sel_neg (by omega), chk_pos (by omega)]
        by_cases h2 : c.toNat ≤ 122
        · rw [sel_neg (by omega), if_pos (by simp [h1, h2])]
        · rw [sel_pos (by omega), if_neg (by simp [h2])]
      · rw [sel_pos (by omega), if_neg (by simp [h1])]) (by unfold s_IsWord_L1; rw [sel_neg (by omega)]) (by omega) (by omega), decide_eq_true h]
    cases s.all isLet <;> rfl
  · rw [decide_eq_false h, Bool.false_and, sel_ite]
    split
    · rw [bnd_mk, decide_eq_false (p := ((s.length : Int) ≤ 8)) (by omega)]; rfl
    · rfl
def beforeW (a b : List UInt8) : Bool := if ((a.length : Int) != (b.length : Int)) = true then decide ((a.length : Int) < (b.length : Int)) else Op.bytesLess a b
theorem p_i_BeforeWord (N : Nat) (a b : List UInt8) : i_BeforeWord N a b = some (beforeW a b) := by
  unfold i_BeforeWord beforeW
  cases ((a.length : Int) != (b.length : Int)) <;> rfl
theorem p_s_BeforeWord (N : Nat) (a b : List UInt8) : s_BeforeWord N a b = some (beforeW a b) := p_i_BeforeWord N a b
def inR (n a b : Int) : Bool := decide (a ≤ n ∧ n ≤ b)
theorem p_i_inR (N : Nat) (n a b : Int) : i_InRange N n a b = some (inR n a b) := p_i_InRange N n a b
theorem p_s_inR (N : Nat) (n a b : Int) : s_l1In N n a b = some (inR n a b) := p_s_l1In N n a b
def okListed (l : List Gx.Listed) (i : Nat) (x : Gx.Listed) : Bool :=
  (decide (i = 0) || beforeW ((l[i - 1]?).map (·.mWord) |>.getD []) x.mWord) && (isWord x.mWord && (inR x.mFrom 0 x.mUntil && (!decide (x.mUntil > 1000) && inR x.mScore 0 99)))
def isList (l : List Gx.Listed) : Bool := decide (l.length ≤ 40) && allI (okListed l) l 0
theorem prev_get {α : Type} {l : List α} {i : Nat} {x : α} (h : l[i]? = some x) (h0 : i ≠ 0) : ∃ y, l[i - 1]? = some y := ⟨l[i - 1]'(by have := (List.getElem?_eq_some_iff.1 h).1; omega), List.getElem?_eq_getElem _⟩
theorem w64_pred {i : Nat} (h0 : i ≠ 0) (h : i ≤ 4611686018427387904) : w64 ((i : Int) - 1) = ((i - 1 : Nat) : Int) := by rw [w64_in (by omega) (by omega)]; omega
theorem okListed_zero {l : List Gx.Listed} {i : Nat} {x : Gx.Listed} (h0 : i = 0) : okListed l i x = (isWord x.mWord && (inR x.mFrom 0 x.mUntil && (!decide (x.mUntil > 1000) && inR x.mScore 0 99))) := by unfold okListed; rw [decide_eq_true h0]; rfl
theorem okListed_pos {l : List Gx.Listed} {i : Nat} {x y : Gx.Listed} (h0 : i ≠ 0) (hy : l[i - 1]? = some y) : okListed l i x = (beforeW y.mWord x.mWord && (isWord x.mWord && (inR x.mFrom 0 x.mUntil && (!decide (x.mUntil > 1000) && inR x.mScore 0 99)))) := by unfold okListed; rw [decide_eq_false h0, hy]; rfl
theorem p_i_IsList {N : Nat} (hN : 1048577 < N) (l : List Gx.Listed) : i_IsList N l = some (isList l) := by
  unfold i_IsList isList
  by_cases h : l.length ≤ 40
  · rw [sel_neg (by omega), decide_eq_true h, loop_allI (N := N) (γ := Unit) (l := l) (okListed l) (b := false) (fun i x hx hi => by
      unfold i_IsList_L1
      rw [sel_pos (by omega), getI_nat hx, bnd_mk]
      by_cases h0 : i = 0
      · rw [sel_neg (by omega), okListed_zero h0]
        simp only [p_i_IsWord hN, p_i_inR, bnd_mk]
        cases isWord x.mWord <;> cases inR x.mFrom 0 x.mUntil <;> cases decide (x.mUntil > 1000) <;> cases inR x.mScore 0 99 <;> rfl
      · obtain ⟨y, hy⟩ := prev_get hx h0
        rw [sel_pos (by omega), okListed_pos h0 hy, w64_pred h0 (by omega), getI_nat hy]
        simp only [p_i_IsWord hN, p_i_inR, p_i_BeforeWord, bnd_mk]
        cases beforeW y.mWord x.mWord <;> cases isWord x.mWord <;> cases inR x.mFrom 0 x.mUntil <;> cases decide (x.mUntil > 1000) <;> cases inR x.mScore 0 99 <;> rfl) (by unfold i_IsList_L1; rw [sel_neg (by omega)]) (by omega) (by omega)]
    cases allI (okListed l) l 0 <;> rfl
  · rw [sel_pos (by omega), decide_eq_false h]; rfl
theorem p_s_IsList {N : Nat} (hN : 1048577 < N) (l : List Gx.Listed) (hl : l.length ≤ 1048576) : s_IsList N l = some (isList l) := by
  unfold s_IsList isList
  rw [loop_allI (N := N) (γ := Unit) (l := l) (okListed l) (b := false) (fun i x hx hi => by
      unfold s_IsList_L1
      rw [sel_pos (by omega), getI_nat hx, bnd_mk]
      have e : inR x.mFrom 0 x.mUntil = (!decide (x.mFrom < 0) && !decide (x.mFrom > x.mUntil)) := by
        unfold inR
        by_cases h1 : x.mFrom < 0 <;> by_cases h2 : x.mFrom > x.mUntil <;> simp [h1, h2] <;> omega
      by_cases h0 : i = 0
      · rw [okListed_zero h0, e, decide_eq_false (p := ((i : Int) > 0)) (by omega)]
        simp only [p_s_IsWord hN, p_s_inR, bnd_mk]
        cases isWord x.mWord <;> cases decide (x.mFrom < 0) <;> cases decide (x.mFrom > x.mUntil) <;> cases decide (x.mUntil > 1000) <;> cases inR x.mScore 0 99 <;> rfl
      · obtain ⟨y, hy⟩ := prev_get hx h0
        rw [okListed_pos h0 hy, e, decide_eq_true (p := ((i : Int) > 0)) (by omega), w64_pred h0 (by omega), getI_nat hy]
        simp only [p_s_IsWord hN, p_s_inR, p_s_BeforeWord, bnd_mk]
        cases beforeW y.mWord x.mWord <;> cases isWord x.mWord <;> cases decide (x.mFrom < 0) <;> cases decide (x.mFrom > x.mUntil) <;> cases decide (x.mUntil > 1000) <;> cases inR x.mScore 0 99 <;> rfl) (by unfold s_IsList_L1; rw [sel_neg (by omega)]) (by omega) (by omega)]
  by_cases h : l.length ≤ 40
  · rw [decide_eq_true h, decide_eq_true (p := ((l.length : Int) ≤ 40)) (by omega)]
    cases allI (okListed l) l 0 <;> rfl
  · rw [decide_eq_false h, decide_eq_false (p := ((l.length : Int) ≤ 40)) (by omega)]
    cases allI (okListed l) l 0 <;> rfl
/-- the first, or out -/
def firstV {α β : Type} (f : Nat → α → Option β) : List α → Nat → β → β
  | [], _, b => b
  | x :: r, i, b => match f i x with | some y => y | none => firstV f r (i + 1) b
theorem loop_first {α β : Type} {l : List α} {step : Int → Option (Sum Int β)} (f : Nat → α → Option β) {b : β} {N : Nat}
    (hs : ∀ i x, l[i]? = some x → i < l.length → step (i : Int) = some (match f i x with | some y => .inr y | none => .inl (w64 ((i : Int) + 1)))) (he : step (l.length : Int) = some (.inr b))
    (hl : l.length ≤ 4611686018427387904) (hN : l.length < N) : loopN step N 0 = some (firstV f l 0 b) :=
  loopN_list (N := N) (step := step) (fun i (a : Nat) => (i : Int)) l (fun r a => firstV f r a b) (fun i a => a = i) (a := 0) rfl
    (fun a ha => by rw [he]; rfl)
    (fun i a x r ha hx hr hi => by
      subst ha
      rw [hs a x hx hi]
      simp only [firstV]
      cases f a x with
      | some y => right; rfl
      | none => left; rw [w64_nat (by omega)]; exact ⟨a + 1, rfl, rfl, rfl⟩) hN
theorem firstV_mem {α β : Type} (f : Nat → α → Option β) (p : β → Prop) {b : β} (hb : p b) : ∀ (l : List α) (i : Nat), (∀ k x y, l[k]? = some x → f (i + k) x = some y → p y) → p (firstV f l i b)
  | [], i, _ => hb
  | x :: r, i, h => by
    simp only [firstV]
    cases hf : f i x with
    | some y => exact h 0 x y rfl hf
    | none => exact firstV_mem f p hb r (i + 1) fun k z y hz hy => h (k + 1) z y (by simpa using hz) (by rw [show i + (k + 1) = i + 1 + k by omega]; exact hy)
def findL (l : List Gx.Listed) (w : List UInt8) : Int := firstV (fun i (x : Gx.Listed) => if (x.mWord == w) = true then some (i : Int) else none) l 0 (-1)
theorem findL_in (l : List Gx.Listed) (w : List UInt8) : findL l w = -1 ∨ ∃ (k : Nat) (x : Gx.Listed), l[k]? = some x ∧ findL l w = (k : Int) :=
  firstV_mem (fun i (x : Gx.Listed) => if (x.mWord == w) = true then some (i : Int) else none) (fun y => y = -1 ∨ ∃ (k : Nat) (x : Gx.Listed), l[k]? = some x ∧ y = (k : Int)) (.inl rfl) l 0 (fun k x y hx hy => by
    split at hy
    · simp only [Option.some.injEq] at hy
      exact .inr ⟨k, x, hx, by rw [← hy]; simp⟩
    · cases hy)
theorem p_s_l5Find {N : Nat} (hN : 1048577 < N) (l : List Gx.Listed) (hl : l.length ≤ 1048576) (w : List UInt8) : s_l5Find N l w = some (findL l w) := by
  unfold s_l5Find
  rw [loop_first (N := N) (l := l) (fun i (x : Gx.Listed) => if (x.mWord == w) = true then some (Cut.rt (i : Int)) else none) (b := Cut.nx ()) (fun i x hx hi => by
    unfold s_l5Find_L1
    rw [sel_pos (by omega), getI_nat hx, bnd_mk]
    cases x.mWord == w <;> rfl) (by unfold s_l5Find_L1; rw [sel_neg (by omega)]) (by omega) (by omega)]
  have key : ∀ (r : List Gx.Listed) (i : Nat), cutb (some (firstV (fun i (x : Gx.Listed) => if (x.mWord == w) = true then some (Cut.rt (i : Int)) else none) r i (Cut.nx ()))) (fun _ => some (-1)) = some (firstV (fun i (x : Gx.Listed) => if (x.mWord == w) = true then some (i : Int) else none) r i (-1)) := by
    intro r
    induction r with
    | nil => intro i; rfl
    | cons x r ih =>
      intro i
      simp only [firstV]
      cases x.mWord == w with
      | true => rfl
      | false => exact ih (i + 1)
  exact key l 0
theorem e_listedAt (N : Nat) (l : List Gx.Listed) (w : List UInt8) : i_listedAt N l w = s_l5Find N l w := by
  unfold i_listedAt
  have e : g_slices_IndexFunc_Simpl_Listed_impl_Listed N l (fun a0 => i_listedAt_1 N a0 w) = s_l5Find N l w := rfl
  rw [e]
  cases s_l5Find N l w <;> rfl
def scoreL (l : List Gx.Listed) (ws : List (List UInt8)) : Int :=
  if isList l = true then ws.foldl (fun a w => match l[(findL l w).toNat]? with | some x => if findL l w ≥ 0 then w64 (a + x.mScore) else a | none => a) 0 else 0
theorem score_step {N : Nat} (hN : 1048577 < N) (l : List Gx.Listed) (hl : l.length ≤ 1048576) (w : List UInt8) (a : Int) (i : Nat) : (bnd (s_l5Find N l w) fun x3 =>
      sel (decide (x3 ≥ 0)) (bnd (getI l x3) fun x4 => some (Sum.inl (β := Int) (w64 (a + x4.mScore), w64 ((i : Int) + 1)))) (some (.inl (a, w64 ((i : Int) + 1))))) =
    some (.inl ((match l[(findL l w).toNat]? with | some x => if findL l w ≥ 0 then w64 (a + x.mScore) else a | none => a), w64 ((i : Int) + 1))) := by
  rw [p_s_l5Find hN l hl, bnd_mk]
  rcases findL_in l w with h | ⟨k, x, hx, h⟩
  · rw [h, sel_neg (by omega)]
    simp only [show ¬ ((-1 : Int) ≥ 0) by omega, if_false]
    split <;> rfl
  · rw [h, sel_pos (by omega), getI_nat hx, bnd_mk]
    simp only [show ((k : Int)).toNat = k by omega, hx, if_pos (show ((k : Int) ≥ 0) by omega)]
theorem p_i_ScoreOf {N : Nat} (hN : 1048577 < N) (l : List Gx.Listed) (hl : l.length ≤ 1048576) (ws : List (List UInt8)) (hw : ws.length ≤ 1048576) : i_ScoreOf N l ws = some (scoreL l ws) := by
  unfold i_ScoreOf scoreL
  rw [p_i_IsList hN, bnd_mk]
  cases isList l with
  | false => rfl
  | true =>
    rw [Bool.not_true, sel_false, if_pos rfl]
    have := loop_fold (N := N) (step := i_ScoreOf_L1 N ws l) (fun i a => (a, (i : Int))) ws (fun a w => match l[(findL l w).toNat]? with | some x => if findL l w ≥ 0 then w64 (a + x.mScore) else a | none => a) id (fun _ _ => True) (a := 0) trivial
      (fun a _ => by unfold i_ScoreOf_L1; rw [sel_neg (by simp)]; rfl)
      (fun i a w _ hw' hi => ⟨by
        unfold i_ScoreOf_L1
        rw [sel_pos (by simp only; omega)]
        simp only
        rw [getI_nat hw', bnd_mk, e_listedAt, score_step hN l hl, w64_nat (by omega)], trivial⟩) (by omega)
    rw [show ((0 : Int), (0 : Int)) = ((0 : Int), ((0 : Nat) : Int)) from rfl, this]
    rfl
theorem p_s_ScoreOf {N : Nat} (hN : 1048577 < N) (l : List Gx.Listed) (hl : l.length ≤ 1048576) (ws : List (List UInt8)) (hw : ws.length ≤ 1048576) : s_ScoreOf N l ws = some (scoreL l ws) := by
  unfold s_ScoreOf scoreL
  cases hb : isList l with
  | false =>
    rw [if_neg (by simp)]
    obtain ⟨M, rfl⟩ : ∃ M, N = M + 1 := ⟨N - 1, by omega⟩
    have e : s_ScoreOf_L1 (M + 1) ws l (0, 0) = some (.inr 0) := by
      unfold s_ScoreOf_L1
      rw [p_s_IsList hN l hl, hb, sel_ite]
      split <;> rfl
    simp only [loopN, e]
    rfl
  | true =>
    rw [if_pos rfl]
    have := loop_fold (N := N) (step := s_ScoreOf_L1 N ws l) (fun i a => (a, (i : Int))) ws (fun a w => match l[(findL l w).toNat]? with | some x => if findL l w ≥ 0 then w64 (a + x.mScore) else a | none => a) id (fun _ _ => True) (a := 0) trivial
      (fun a _ => by unfold s_ScoreOf_L1; rw [sel_neg (by simp)]; rfl)
      (fun i a w _ hw' hi => ⟨by
        unfold s_ScoreOf_L1
        rw [sel_pos (by simp only; omega), p_s_IsList hN l hl, hb, bnd_mk]
        simp only [sel_true]
        rw [getI_nat hw', bnd_mk, score_step hN l hl, w64_nat (by omega)], trivial⟩) (by omega)
    rw [show ((0 : Int), (0 : Int)) = ((0 : Int), ((0 : Nat) : Int)) from rfl, this]
    rfl
end Lw
end Go.Proofs
