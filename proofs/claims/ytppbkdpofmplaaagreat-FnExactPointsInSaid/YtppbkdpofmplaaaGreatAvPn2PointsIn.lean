/- plain laws -/
import Derived.Test.YtppbkdpofmplaaaGreatAvPn1PointsIn
namespace Go.Proofs
open Go Go.Av
set_option maxRecDepth 100000
set_option maxHeartbeats 4000000
set_option linter.unusedVariables false
set_option linter.unusedSimpArgs false
namespace Lw
def lettersOf (w : List UInt8) : List Int := w.map fun c => (c.toNat : Int)
theorem w64_byte {s : List UInt8} {i : Nat} {c : UInt8} (h : s[i]? = some c) : w64 (byteI s (i : Int)) = (c.toNat : Int) := by
 rw [byteI_nat h]; have := c.toNat_lt; exact w64_in (by omega) (by omega)
theorem p_s_LettersOf {N : Nat} (w : List UInt8) (hl : w.length ≤ 1048576) (hN : 33554432 < N) : s_LettersOf N w = some (lettersOf w) := by
 unfold s_LettersOf
 rw [loop_map (N := N) (l := w) (step := s_LettersOf_L1 N w) (fun c : UInt8 => (c.toNat : Int)) (fi := fun a => a) (fun i x a hx hi ha => by
  unfold s_LettersOf_L1
  simp only
  rw [sel_pos (by omega), chk_pos (by omega), w64_byte hx, chk_pos (by simp; omega)]) (fun a => by unfold s_LettersOf_L1; rw [sel_neg (by simp only; omega)]) (by omega) (by omega)]
 rfl
theorem p_i_LettersOf {N : Nat} (w : List UInt8) (hl : w.length ≤ 1048576) (hN : 33554432 < N) : i_LettersOf N w = some (lettersOf w) := p_s_LettersOf w hl hN
def modV (v : Int) : Int := Int.tmod (w64 ((Int.tmod v 2147483647) + 2147483647)) 2147483647
theorem p_s_Mod (N : Nat) (v : Int) : s_Mod N v 2147483647 = some (modV v) := by
 unfold s_Mod
 rw [p_s_l1In, bnd_mk, decide_eq_true (by omega), Bool.not_true, sel_false, chk_pos (by omega), chk_pos (by omega)]; rfl
theorem p_i_Mod (N : Nat) (v : Int) : i_Mod N v 2147483647 = some (modV v) := by
 unfold i_Mod
 rw [p_i_InRange, bnd_mk, decide_eq_true (by omega), Bool.not_true, sel_false, chk_pos (by omega), chk_pos (by omega)]; rfl
def hashF (l : List Int) : Int := l.foldl (fun h v => Int.tmod (w64 ((w64 ((w64 (h * 1000003)) + modV v)) + 13)) 2147483647) 11
theorem p_s_Hash {N : Nat} (l : List Int) (hl : l.length ≤ 1048576) (hN : 33554432 < N) : s_Hash N l = some (hashF l) := by
 unfold s_Hash
 have := loop_fold (N := N) (step := s_Hash_L1 N l) (fun i (a : Int) => (a, (i : Int))) l (fun h v => Int.tmod (w64 ((w64 ((w64 (h * 1000003)) + modV v)) + 13)) 2147483647) (fun a => a) (fun _ _ => True) (a := 11) trivial
  (fun a _ => by unfold s_Hash_L1; rw [sel_neg (by simp only; omega)])
  (fun i a x _ hx hi => ⟨by
   unfold s_Hash_L1
   simp only
   rw [sel_pos (by omega), getI_nat hx, bnd_mk, p_s_Mod, bnd_mk, chk_pos (by omega), w64_nat (by omega)], trivial⟩) (by omega)
 rw [show ((11, 0) : Int × Int) = (11, ((0 : Nat) : Int)) from rfl, this, bnd_mk]; rfl
theorem p_i_Hash {N : Nat} (l : List Int) (hl : l.length ≤ 1048576) (hN : 33554432 < N) : i_Hash N l = some (hashF l) := by
 unfold i_Hash
 have := loop_fold (N := N) (step := i_Hash_L1 N l) (fun i (a : Int) => (a, (i : Int))) l (fun h v => Int.tmod (w64 ((w64 ((w64 (h * 1000003)) + modV v)) + 13)) 2147483647) (fun a => a) (fun _ _ => True) (a := 11) trivial
  (fun a _ => by unfold i_Hash_L1; rw [sel_neg (by simp only; omega)])
  (fun i a x _ hx hi => ⟨by
   unfold i_Hash_L1
   simp only
   rw [sel_pos (by omega), getI_nat hx, bnd_mk, p_i_Mod, bnd_mk, chk_pos (by omega), w64_nat (by omega)], trivial⟩) (by omega)
 rw [show ((11, 0) : Int × Int) = (11, ((0 : Nat) : Int)) from rfl, this, bnd_mk]; rfl
def sealV (salt slot : Int) (w : List UInt8) : Int := if isWord w = true then hashF ([salt, slot, (w.length : Int)] ++ lettersOf w) else 0
theorem word_len {w : List UInt8} (h : isWord w = true) : w.length ≤ 8 := by
 unfold isWord at h; simp only [Bool.and_eq_true, decide_eq_true_eq] at h; exact h.1.2
theorem p_s_SealAnswer {N : Nat} (hN : 33554432 < N) (salt slot : Int) (w : List UInt8) : s_SealAnswer N salt slot w = some (sealV salt slot w) := by
 unfold s_SealAnswer sealV
 rw [p_s_IsWord hN, bnd_mk]
 cases h : isWord w with
 | false => rfl
 | true =>
  have hl := word_len h
  have hlo : (lettersOf w).length = w.length := by simp [lettersOf]
  rw [Bool.not_true, sel_false, p_s_LettersOf w (by omega) hN, bnd_mk, chk_pos (by simp; omega), p_s_Hash _ (by simp; omega) hN, bnd_mk, if_pos rfl]
theorem p_i_SealAnswer {N : Nat} (hN : 33554432 < N) (salt slot : Int) (w : List UInt8) : i_SealAnswer N salt slot w = some (sealV salt slot w) := by
 unfold i_SealAnswer sealV
 rw [p_i_IsWord hN, bnd_mk]
 cases h : isWord w with
 | false => rfl
 | true =>
  have hl := word_len h
  have hlo : (lettersOf w).length = w.length := by simp [lettersOf]
  rw [Bool.not_true, sel_false, p_i_LettersOf w (by omega) hN, bnd_mk, chk_pos (by simp; omega), p_i_Hash _ (by simp; omega) hN, bnd_mk, if_pos rfl]
def checksV (seals : List Int) (salt slot : Int) (w : List UInt8) : Bool := (decide (0 ≤ slot) && decide (slot < (seals.length : Int))) && (isWord w && (sealV salt slot w == seals.getD slot.toNat 0))
theorem getI_D {l : List Int} {a : Int} (h0 : 0 ≤ a) (h1 : a < (l.length : Int)) : getI l a = some (l.getD a.toNat 0) := by
 obtain ⟨n, rfl⟩ : ∃ n : Nat, a = (n : Int) := ⟨a.toNat, by omega⟩
 rw [show ((n : Int)).toNat = n by omega, List.getD_eq_getElem?_getD, List.getElem?_eq_getElem (by omega)]
 exact getI_nat (List.getElem?_eq_getElem (by omega))
theorem p_i_ChecksAnswer {N : Nat} (hN : 33554432 < N) (seals : List Int) (salt slot : Int) (w : List UInt8) : i_ChecksAnswer N seals salt slot w = some (checksV seals salt slot w) := by
 unfold i_ChecksAnswer checksV
 rw [p_i_at, bnd_mk]
 cases h : decide (0 ≤ slot) && decide (slot < (seals.length : Int)) with
 | false => rfl
 | true =>
  simp only [Bool.and_eq_true, decide_eq_true_eq] at h
  rw [sel_true, p_i_IsWord hN, bnd_mk, p_i_SealAnswer hN, bnd_mk, getI_D h.1 h.2, bnd_mk]
  cases isWord w <;> rfl
theorem p_s_ChecksAnswer {N : Nat} (hN : 33554432 < N) (seals : List Int) (hl : seals.length ≤ 1048576) (salt slot : Int) (w : List UInt8) : s_ChecksAnswer N seals salt slot w = some (checksV seals salt slot w) := by
 unfold s_ChecksAnswer checksV
 have e : decide (0 ≤ slot ∧ slot ≤ w64 ((seals.length : Int) - 1)) = (decide (0 ≤ slot) && decide (slot < (seals.length : Int))) := by
  rw [w64_in (by omega) (by omega), Bool.eq_iff_iff]; simp only [Bool.and_eq_true, decide_eq_true_eq]; omega
 rw [p_s_l1In, e, bnd_mk]
 cases h : decide (0 ≤ slot) && decide (slot < (seals.length : Int)) with
 | false => rfl
 | true =>
  simp only [Bool.and_eq_true, decide_eq_true_eq] at h
  rw [sel_true, p_s_IsWord hN, bnd_mk, p_s_SealAnswer hN, bnd_mk, getI_D h.1 h.2, bnd_mk]
  cases isWord w <;> rfl
/-- the indices where something holds -/
def atI {α : Type} (p : Nat → α → Bool) : List α → Nat → List Int → List Int
 | [], _, a => a
 | x :: r, i, a => atI p r (i + 1) (if p i x = true then a ++ [(i : Int)] else a)
theorem loop_idxI {α γ : Type} {l : List α} {step : List Int × Int → Option (Sum (List Int × Int) γ)} (p : Nat → α → Bool) {fi : List Int → γ} {N : Nat}
  (hs : ∀ i x a, l[i]? = some x → i < l.length → a.length ≤ i → step (a, (i : Int)) = some (.inl (if p i x = true then a ++ [(i : Int)] else a, w64 ((i : Int) + 1)))) (he : ∀ a, step (a, (l.length : Int)) = some (.inr (fi a)))
  (hl : l.length ≤ 4611686018427387904) (hN : l.length < N) : loopN step N ([], 0) = some (fi (atI p l 0 [])) := by
 have := loopN_list (N := N) (step := step) (fun i (a : Nat × List Int) => (a.2, (i : Int))) l (fun r a => fi (atI p r a.1 a.2)) (fun i a => a.1 = i ∧ a.2.length ≤ i) (a := (0, [])) ⟨rfl, Nat.le_refl _⟩
  (fun a _ => by rw [he]; rfl)
  (fun i a x r ha hx hr hi => by
   obtain ⟨h1, h2⟩ := ha
   refine .inl ⟨(i + 1, if p i x = true then a.2 ++ [(i : Int)] else a.2), ?_, ⟨rfl, len_if h2⟩, ?_⟩
   ·rw [hs i x a.2 hx hi h2, w64_nat (by omega)]
   ·simp only [atI, h1]) hN
 simpa using this
def rights (g : Gx.Grid) (f : List UInt8) (seals : List Int) (salt : Int) : List Int := atI (fun i w => checksV seals salt (i : Int) w) (patterns g f) 0 []
theorem p_i_RightSlots {N : Nat} (hN : 33554432 < N) (g : Gx.Grid) (f : List UInt8) (seals : List Int) (salt : Int) : i_RightSlots N g f seals salt = some (rights g f seals salt) := by
 have h72 := pats_len g f
 unfold i_RightSlots
 rw [p_i_patterns hN, bnd_mk, loop_idxI (N := N) (l := patterns g f) (step := i_RightSlots_L1 N (patterns g f) seals salt) (fun i w => checksV seals salt (i : Int) w) (fi := fun a => a) (fun i x a hx hi ha => by
  unfold i_RightSlots_L1
  simp only
  rw [sel_pos (by omega), getI_nat hx, bnd_mk, p_i_ChecksAnswer hN, bnd_mk]
  cases checksV seals salt (i : Int) x
  ·rfl
  ·rw [sel_true, chk_pos (by simp; omega), if_pos rfl]) (fun a => by unfold i_RightSlots_L1; rw [sel_neg (by simp only; omega)]) (by omega) (by omega)]
 rfl
theorem p_s_RightSlots {N : Nat} (hN : 33554432 < N) (g : Gx.Grid) (hg : g.mCells.length ≤ 1048576) (f : List UInt8) (seals : List Int) (hl : seals.length ≤ 1048576) (salt : Int) : s_RightSlots N g f seals salt = some (rights g f seals salt) := by
 have h72 := slots_len g
 unfold s_RightSlots
 rw [p_s_SlotsOf hN g hg, bnd_mk]
 cases hf : isFill g f with
 | false =>
  have hp : patterns g f = [] := by unfold patterns; rw [hf]; rfl
  have e : s_RightSlots_L1 N (slots g) g f seals salt ([], 0) = some (.inr []) := by
   unfold s_RightSlots_L1
   simp only
   by_cases h0 : (0 : Int) < ((slots g).length : Int)
   ·rw [sel_pos h0, p_s_IsFill hN, hf]; rfl
   ·rw [sel_neg h0]
  obtain ⟨M, rfl⟩ : ∃ k, N = k + 1 := ⟨N - 1, by omega⟩
  simp only [loopN, e, rights, hp, atI, bnd_mk]
 | true =>
  have hpl := patterns_len hf
  rw [loop_idxI (N := N) (l := patterns g f) (step := s_RightSlots_L1 N (slots g) g f seals salt) (fun i w => checksV seals salt (i : Int) w) (fi := fun a => a) (fun i x a hx hi ha => by
   have ep : patAt g f (i : Int) = x := by unfold patAt; rw [if_pos (by omega), Int.toNat_natCast, List.getD_eq_getElem?_getD, hx]; rfl
   unfold s_RightSlots_L1
   simp only
   rw [sel_pos (by omega), p_s_IsFill hN, hf, bnd_mk, sel_true, p_s_SlotPattern hN g f hg, bnd_mk, ep, p_s_ChecksAnswer hN seals hl, bnd_mk]
   cases checksV seals salt (i : Int) x
   ·rfl
   ·rw [sel_true, chk_pos (by simp; omega), if_pos rfl]) (fun a => by unfold s_RightSlots_L1; rw [sel_neg (by simp only; omega)]) (by omega) (by omega)]
  rfl
def isFull (g : Gx.Grid) (f : List UInt8) : Bool := isFill g f && !isOpen f
theorem fill_len {g : Gx.Grid} {f : List UInt8} (h : isFill g f = true) : f.length ≤ 36 := by
 obtain ⟨G, hl⟩ := isFill_ok h
 obtain ⟨R, C, D⟩ := G.dims
 have := D.len
 have := Nat.mul_le_mul D.r2.2 D.c2.2
 omega
theorem p_i_IsFull {N : Nat} (hN : 33554432 < N) (g : Gx.Grid) (f : List UInt8) : i_IsFull N g f = some (isFull g f) := by
 unfold i_IsFull isFull
 rw [p_i_IsFill hN, bnd_mk]
 cases h : isFill g f with
 | false => rfl
 | true => have := fill_len h; rw [sel_true, p_i_openIn f (by omega) (by omega), bnd_mk, openN_zero]; rfl
theorem p_s_IsFull {N : Nat} (hN : 33554432 < N) (g : Gx.Grid) (f : List UInt8) : s_IsFull N g f = some (isFull g f) := by
 unfold s_IsFull isFull
 rw [p_s_IsFill hN, bnd_mk]
 cases h : isFill g f with
 | false => rfl
 | true => have := fill_len h; rw [sel_true, p_s_l11Open f (by omega) (by omega), bnd_mk]; rfl
structure PuzFine (p : Gx.Puzzle) : Prop where
 grid : isGrid p.mGrid = true
 clues : p.mClues.length = (slots p.mGrid).length
 seals : p.mSeals.length = (slots p.mGrid).length
 clue : ∀ c ∈ p.mClues, isClue c = true
def puzB (N : Nat) (p : Gx.Puzzle) : Bool := (s_IsPuzzle N p).getD false
theorem puzB_ok {N : Nat} (hN : 33554432 < N) {p : Gx.Puzzle} (hp : PuzSmall p) : i_IsPuzzle N p = some (puzB N p) ∧ s_IsPuzzle N p = some (puzB N p) ∧ (puzB N p = true → PuzFine p) := by
 obtain ⟨b, q1, q2, q3⟩ := p_IsPuzzle hN hp
 unfold puzB
 rw [q1, q2]
 refine ⟨rfl, rfl, fun h => ?_⟩
 obtain ⟨a1, a2, a3, a4⟩ := q3 h
 exact ⟨a1, a2, a3, a4⟩
def solvedB (N : Nat) (p : Gx.Puzzle) (f : List UInt8) : Bool := puzB N p && (isFull p.mGrid f && (((rights p.mGrid f p.mSeals p.mSalt).length : Int) == (p.mClues.length : Int)))
theorem p_i_IsSolved {N : Nat} (hN : 33554432 < N) {p : Gx.Puzzle} (hp : PuzSmall p) (f : List UInt8) : i_IsSolved N p f = some (solvedB N p f) := by
 obtain ⟨q1, _, q3⟩ := puzB_ok hN hp
 unfold i_IsSolved solvedB
 rw [q1, bnd_mk]
 cases h : puzB N p with
 | false => rfl
 | true =>
  have := q3 h
  rw [sel_true, p_i_IsFull hN, bnd_mk, p_i_RightSlots hN, bnd_mk, this.seals, this.clues]
  cases isFull p.mGrid f <;> rfl
theorem p_s_IsSolved {N : Nat} (hN : 33554432 < N) {p : Gx.Puzzle} (hp : PuzSmall p) (hl : p.mSeals.length ≤ 1048576) (f : List UInt8) : s_IsSolved N p f = some (solvedB N p f) := by
 obtain ⟨_, q2, q3⟩ := puzB_ok hN hp
 unfold s_IsSolved solvedB
 rw [q2, bnd_mk]
 cases h : puzB N p with
 | false => rfl
 | true =>
  rw [sel_true, p_s_IsFull hN, bnd_mk, p_s_RightSlots hN _ hp.cells _ _ hl, bnd_mk]
  cases isFull p.mGrid f <;> rfl
def issB (N : Nat) (x : Gx.Issue) : Bool := inR x.mNumber 1 999 && (solvedB N x.mPuzzle x.mFill && (decide (x.mOpen ≥ 0) && (decide (x.mOpen < x.mClose) && decide (x.mClose ≤ 1000))))
theorem p_i_IsIssue {N : Nat} (hN : 33554432 < N) {x : Gx.Issue} (hx : CpIss x) : i_IsIssue N x = some (issB N x) := by
 unfold i_IsIssue issB
 rw [p_i_inR, bnd_mk, p_i_IsSolved hN (puz_small hx), bnd_mk]
 cases inR x.mNumber 1 999 <;> cases solvedB N x.mPuzzle x.mFill <;> cases decide (x.mOpen ≥ 0) <;> cases decide (x.mOpen < x.mClose) <;> rfl
theorem p_s_IsIssue {N : Nat} (hN : 33554432 < N) {x : Gx.Issue} (hx : CpIss x) : s_IsIssue N x = some (issB N x) := by
 unfold s_IsIssue issB
 rw [p_s_inR, bnd_mk, p_s_IsSolved hN (puz_small hx) hx.seals, bnd_mk]
 cases inR x.mNumber 1 999 <;> cases solvedB N x.mPuzzle x.mFill <;> cases decide (x.mOpen ≥ 0) <;> cases decide (x.mOpen < x.mClose) <;> rfl
def entB (N : Nat) (e : Gx.Entry) (x : Gx.Issue) : Bool := inR e.mPlayer 1 99 && ((e.mIssue == x.mNumber) && (issB N x && ((decide (e.mTick ≥ x.mOpen) && decide (e.mTick < x.mClose)) && isFill x.mPuzzle.mGrid e.mFill)))
theorem p_i_IsEntry {N : Nat} (hN : 33554432 < N) (e : Gx.Entry) {x : Gx.Issue} (hx : CpIss x) : i_IsEntry N e x = some (entB N e x) := by
 unfold i_IsEntry entB i_IsOpen
 rw [p_i_inR, bnd_mk, p_i_IsIssue hN hx, bnd_mk, p_i_IsFill hN, bnd_mk]
 cases inR e.mPlayer 1 99 <;> cases e.mIssue == x.mNumber <;> cases issB N x <;> cases decide (e.mTick ≥ x.mOpen) <;> cases decide (e.mTick < x.mClose) <;> rfl
theorem p_s_IsEntry {N : Nat} (hN : 33554432 < N) (e : Gx.Entry) {x : Gx.Issue} (hx : CpIss x) : s_IsEntry N e x = some (entB N e x) := by
 unfold s_IsEntry entB s_IsOpen
 rw [p_s_inR, bnd_mk, p_s_IsIssue hN hx, bnd_mk, p_s_IsFill hN, bnd_mk]
 cases inR e.mPlayer 1 99 <;> cases e.mIssue == x.mNumber <;> cases issB N x <;> cases decide (e.mTick ≥ x.mOpen) <;> cases decide (e.mTick < x.mClose) <;> rfl
theorem cp_none : CpIss noIss := ⟨by simp [noIss], by simp [noIss], by simp [noIss], by simp [noIss]⟩
theorem cp_of {l : List Gx.Issue} (h : ∀ x ∈ l, CpIss x) (n : Int) : CpIss (issueOf l n).1 := by
 rcases issueOf_in l n with e | ⟨_, e, _⟩
 ·rw [e]; exact cp_none
 ·exact h _ e
def rightOf (N : Nat) (e : Gx.Entry) (x : Gx.Issue) : Int := if entB N e x = true then ((rights x.mPuzzle.mGrid e.mFill x.mPuzzle.mSeals x.mPuzzle.mSalt).length : Int) else 0
theorem p_i_RightOf {N : Nat} (hN : 33554432 < N) (e : Gx.Entry) {x : Gx.Issue} (hx : CpIss x) : i_RightOf N e x = some (rightOf N e x) := by
 unfold i_RightOf rightOf
 rw [p_i_IsEntry hN e hx, bnd_mk, p_i_RightSlots hN, bnd_mk]
 cases entB N e x <;> rfl
theorem p_s_RightOf {N : Nat} (hN : 33554432 < N) (e : Gx.Entry) {x : Gx.Issue} (hx : CpIss x) : s_RightOf N e x = some (rightOf N e x) := by
 unfold s_RightOf rightOf
 rw [p_s_IsEntry hN e hx, bnd_mk, p_s_RightSlots hN _ hx.cells _ _ hx.seals, bnd_mk]
 cases entB N e x <;> rfl
def pointsG (N : Nat) (x : Gx.Issue) (v1 v2 : Int) (a : Int) (e : Gx.Entry) : Int := if ((e.mPlayer == v1) && (e.mIssue == v2)) = true then max a (rightOf N e x) else a
def pointsIn (N : Nat) (h : Gx.House) (v1 v2 : Int) : Int := if (issueOf h.mIssues v2).2 = true then h.mEntries.foldl (pointsG N (issueOf h.mIssues v2).1 v1 v2) 0 else 0
theorem ent_len {h : Gx.House} (hs : h.size ≤ 1048576) : h.mEntries.length ≤ 1048576 := by unfold Gx.House.size at hs; omega
theorem p_i_PointsIn {N : Nat} (hN : 33554432 < N) (h : Gx.House) (hs : h.size ≤ 1048576) (v1 v2 : Int) : i_PointsIn N h v1 v2 = some (pointsIn N h v1 v2) := by
 obtain ⟨h1, h2⟩ := cp_issues hs
 have he := ent_len hs
 have hx := cp_of h2 v2
 unfold i_PointsIn pointsIn
 rw [p_i_IssueOf hN h v2 h1 h2, bnd_mk]
 cases hb : (issueOf h.mIssues v2).2 with
 | false => rfl
 | true =>
  have := loop_fold (N := N) (step := i_PointsIn_L1 N h v1 v2 (issueOf h.mIssues v2)) (fun i (a : Int) => (a, (i : Int))) h.mEntries (pointsG N (issueOf h.mIssues v2).1 v1 v2) (fun a => a) (fun _ _ => True) (a := 0) trivial
   (fun a _ => by unfold i_PointsIn_L1; rw [sel_neg (by simp only; omega)])
   (fun i a e _ hx' hi => ⟨by
    unfold i_PointsIn_L1 pointsG
    simp only
    rw [sel_pos (by omega), getI_nat hx', bnd_mk, p_i_RightOf hN e hx, bnd_mk, w64_nat (by omega)]
    cases e.mPlayer == v1 <;> cases e.mIssue == v2 <;> rfl, trivial⟩) (by omega)
  rw [Bool.not_true, sel_false, show ((0, 0) : Int × Int) = (0, ((0 : Nat) : Int)) from rfl, this, bnd_mk, if_pos rfl]
theorem p_s_PointsIn {N : Nat} (hN : 33554432 < N) (h : Gx.House) (hs : h.size ≤ 1048576) (v1 v2 : Int) : s_PointsIn N h v1 v2 = some (pointsIn N h v1 v2) := by
 obtain ⟨h1, h2⟩ := cp_issues hs
 have he := ent_len hs
 have hx := cp_of h2 v2
 unfold s_PointsIn pointsIn
 rw [p_s_IssueOf hN h v2 h1 h2, bnd_mk]
 cases hb : (issueOf h.mIssues v2).2 with
 | false =>
  obtain ⟨M, rfl⟩ : ∃ k, N = k + 1 := ⟨N - 1, by omega⟩
  have e : s_PointsIn_L1 (M + 1) h (issueOf h.mIssues v2) v1 v2 (0, 0) = some (.inr 0) := by
   unfold s_PointsIn_L1
   simp only
   rw [hb]
   by_cases h0 : (0 : Int) < (h.mEntries.length : Int)
   ·rw [sel_pos h0]; rfl
   ·rw [sel_neg h0]
  simp only [loopN, e]; rfl
 | true =>
  have := loop_fold (N := N) (step := s_PointsIn_L1 N h (issueOf h.mIssues v2) v1 v2) (fun i (a : Int) => (a, (i : Int))) h.mEntries (pointsG N (issueOf h.mIssues v2).1 v1 v2) (fun a => a) (fun _ _ => True) (a := 0) trivial
   (fun a _ => by unfold s_PointsIn_L1; rw [sel_neg (by simp only; omega)])
   (fun i a e _ hx' hi => ⟨by
    unfold s_PointsIn_L1 pointsG
    simp only
    rw [sel_pos (by omega), hb, getI_nat hx']
    simp only [bnd_mk]
    rw [p_s_RightOf hN e hx]
    simp only [bnd_mk]
    rw [p_s_Max2]
    simp only [bnd_mk]
    rw [w64_nat (by omega)]
    cases e.mPlayer == v1 <;> cases e.mIssue == v2 <;> rfl, trivial⟩) (by omega)
  rw [show ((0, 0) : Int × Int) = (0, ((0 : Nat) : Int)) from rfl, this, bnd_mk, if_pos rfl]
theorem p_FnExactPointsIn {N : Nat} (hN : 33554432 < N) (x : Gx.House) (hok : x.ok) (n m : Int) : l_FnExactPointsIn N x n m = some true := by
 unfold l_FnExactPointsIn
 rw [p_szHouse hN x hok (by omega) (by omega), bnd_mk, sel_ite]
 split
 ·rfl
 ·rename_i h
  have hs : x.size ≤ 1048576 := by unfold szF at h; split at h <;> omega
  rw [p_toHouse hN x hs]
  simp only [bnd_mk, p_i_PointsIn hN x hs, p_s_PointsIn hN x hs, p_eqHouse hN x x hs, bne_self_eq_false, sel_false, decide_true, Bool.not_true]
end Lw
end Go.Proofs
