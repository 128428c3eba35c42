/- plain laws -/
import Derived.Test.YtgmppfmemimkkaaGreatAvPn1ExampleHouse
namespace Go.Proofs
open Go Go.Av
set_option maxRecDepth 100000
set_option maxHeartbeats 4000000
set_option linter.unusedVariables false
set_option linter.unusedSimpArgs false
namespace Lw
theorem puz_small {x : Gx.Issue} (h : CpIss x) : PuzSmall x.mPuzzle := ⟨h.clues, h.cells⟩
def lettersOf (w : List UInt8) : List Int := w.map fun c => (c.toNat : Int)
theorem w64_byte {s : List UInt8} {i : Nat} {c : UInt8} (h : s[i]? = some c) : w64 (byteI s (i : Int)) = (c.toNat : Int) := by
 rw [byteI_nat h]; have := c.toNat_lt; exact w64_in (by omega) (by omega)
theorem p_s_LettersOf {N : Nat} (w : List UInt8) (hl : w.length ≤ 1048576) (hN : 67108864 < N) : s_LettersOf N w = some (lettersOf w) := by
 unfold s_LettersOf
 rw [loop_map (N := N) (l := w) (step := s_LettersOf_L1 N w) (fun c : UInt8 => (c.toNat : Int)) (fi := fun a => a) (fun i x a hx hi ha => by
  unfold s_LettersOf_L1
  simp only
  rw [sel_pos (by omega), chk_pos (by omega), w64_byte hx, chk_pos (by simp; omega)]) (fun a => by unfold s_LettersOf_L1; rw [sel_neg (by simp only; omega)]) (by omega) (by omega)]
 rfl
theorem p_i_LettersOf {N : Nat} (w : List UInt8) (hl : w.length ≤ 1048576) (hN : 67108864 < N) : i_LettersOf N w = some (lettersOf w) := p_s_LettersOf w hl hN
def modV (v : Int) : Int := Int.tmod (w64 ((Int.tmod v 2147483647) + 2147483647)) 2147483647
theorem p_s_Mod (N : Nat) (v : Int) : s_Mod N v 2147483647 = some (modV v) := by
 unfold s_Mod
 rw [p_s_l1In, bnd_mk, decide_eq_true (by omega), Bool.not_true, sel_false, chk_pos (by omega), chk_pos (by omega)]; rfl
theorem p_i_Mod (N : Nat) (v : Int) : i_Mod N v 2147483647 = some (modV v) := by
 unfold i_Mod
 rw [p_i_InRange, bnd_mk, decide_eq_true (by omega), Bool.not_true, sel_false, chk_pos (by omega), chk_pos (by omega)]; rfl
def hashF (l : List Int) : Int := l.foldl (fun h v => Int.tmod (w64 ((w64 ((w64 (h * 1000003)) + modV v)) + 13)) 2147483647) 11
theorem p_s_Hash {N : Nat} (l : List Int) (hl : l.length ≤ 1048576) (hN : 67108864 < N) : s_Hash N l = some (hashF l) := by
 unfold s_Hash
 have := loop_fold (N := N) (step := s_Hash_L1 N l) (fun i (a : Int) => (a, (i : Int))) l (fun h v => Int.tmod (w64 ((w64 ((w64 (h * 1000003)) + modV v)) + 13)) 2147483647) (fun a => a) (fun _ _ => True) (a := 11) trivial
  (fun a _ => by unfold s_Hash_L1; rw [sel_neg (by simp only; omega)])
  (fun i a x _ hx hi => ⟨by
   unfold s_Hash_L1
   simp only
   rw [sel_pos (by omega), getI_nat hx, bnd_mk, p_s_Mod, bnd_mk, chk_pos (by omega), w64_nat (by omega)], trivial⟩) (by omega)
 rw [show ((11, 0) : Int × Int) = (11, ((0 : Nat) : Int)) from rfl, this, bnd_mk]; rfl
theorem p_i_Hash {N : Nat} (l : List Int) (hl : l.length ≤ 1048576) (hN : 67108864 < N) : i_Hash N l = some (hashF l) := by
 unfold i_Hash
 have := loop_fold (N := N) (step := i_Hash_L1 N l) (fun i (a : Int) => (a, (i : Int))) l (fun h v => Int.tmod (w64 ((w64 ((w64 (h * 1000003)) + modV v)) + 13)) 2147483647) (fun a => a) (fun _ _ => True) (a := 11) trivial
  (fun a _ => by unfold i_Hash_L1; rw [sel_neg (by simp only; omega)])
  (fun i a x _ hx hi => ⟨by
   unfold i_Hash_L1
   simp only
   rw [sel_pos (by omega), getI_nat hx, bnd_mk, p_i_Mod, bnd_mk, chk_pos (by omega), w64_nat (by omega)], trivial⟩) (by omega)
 rw [show ((11, 0) : Int × Int) = (11, ((0 : Nat) : Int)) from rfl, this, bnd_mk]; rfl
def sealV (salt slot : Int) (w : List UInt8) : Int := if isWord w = true then hashF ([salt, slot, (w.length : Int)] ++ lettersOf w) else 0
theorem word_len {w : List UInt8} (h : isWord w = true) : w.length ≤ 8 := by
 unfold isWord at h; simp only [Bool.and_eq_true, decide_eq_true_eq] at h; exact h.1.2
theorem p_s_SealAnswer {N : Nat} (hN : 67108864 < N) (salt slot : Int) (w : List UInt8) : s_SealAnswer N salt slot w = some (sealV salt slot w) := by
 unfold s_SealAnswer sealV
 rw [p_s_IsWord hN, bnd_mk]
 cases h : isWord w with
 | false => rfl
 | true =>
  have hl := word_len h
  have hlo : (lettersOf w).length = w.length := by simp [lettersOf]
  rw [Bool.not_true, sel_false, p_s_LettersOf w (by omega) hN, bnd_mk, chk_pos (by simp; omega), p_s_Hash _ (by simp; omega) hN, bnd_mk, if_pos rfl]
theorem p_i_SealAnswer {N : Nat} (hN : 67108864 < N) (salt slot : Int) (w : List UInt8) : i_SealAnswer N salt slot w = some (sealV salt slot w) := by
 unfold i_SealAnswer sealV
 rw [p_i_IsWord hN, bnd_mk]
 cases h : isWord w with
 | false => rfl
 | true =>
  have hl := word_len h
  have hlo : (lettersOf w).length = w.length := by simp [lettersOf]
  rw [Bool.not_true, sel_false, p_i_LettersOf w (by omega) hN, bnd_mk, chk_pos (by simp; omega), p_i_Hash _ (by simp; omega) hN, bnd_mk, if_pos rfl]
def checksV (seals : List Int) (salt slot : Int) (w : List UInt8) : Bool := (decide (0 ≤ slot) && decide (slot < (seals.length : Int))) && (isWord w && (sealV salt slot w == seals.getD slot.toNat 0))
theorem getI_D {l : List Int} {a : Int} (h0 : 0 ≤ a) (h1 : a < (l.length : Int)) : getI l a = some (l.getD a.toNat 0) := by
 obtain ⟨n, rfl⟩ : ∃ n : Nat, a = (n : Int) := ⟨a.toNat, by omega⟩
 rw [show ((n : Int)).toNat = n by omega, List.getD_eq_getElem?_getD, List.getElem?_eq_getElem (by omega)]
 exact getI_nat (List.getElem?_eq_getElem (by omega))
theorem p_i_ChecksAnswer {N : Nat} (hN : 67108864 < N) (seals : List Int) (salt slot : Int) (w : List UInt8) : i_ChecksAnswer N seals salt slot w = some (checksV seals salt slot w) := by
 unfold i_ChecksAnswer checksV
 rw [p_i_at, bnd_mk]
 cases h : decide (0 ≤ slot) && decide (slot < (seals.length : Int)) with
 | false => rfl
 | true =>
  simp only [Bool.and_eq_true, decide_eq_true_eq] at h
  rw [sel_true, p_i_IsWord hN, bnd_mk, p_i_SealAnswer hN, bnd_mk, getI_D h.1 h.2, bnd_mk]
  cases isWord w <;> rfl
theorem p_s_ChecksAnswer {N : Nat} (hN : 67108864 < N) (seals : List Int) (hl : seals.length ≤ 1048576) (salt slot : Int) (w : List UInt8) : s_ChecksAnswer N seals salt slot w = some (checksV seals salt slot w) := by
 unfold s_ChecksAnswer checksV
 have e : decide (0 ≤ slot ∧ slot ≤ w64 ((seals.length : Int) - 1)) = (decide (0 ≤ slot) && decide (slot < (seals.length : Int))) := by
  rw [w64_in (by omega) (by omega), Bool.eq_iff_iff]; simp only [Bool.and_eq_true, decide_eq_true_eq]; omega
 rw [p_s_l1In, e, bnd_mk]
 cases h : decide (0 ≤ slot) && decide (slot < (seals.length : Int)) with
 | false => rfl
 | true =>
  simp only [Bool.and_eq_true, decide_eq_true_eq] at h
  rw [sel_true, p_s_IsWord hN, bnd_mk, p_s_SealAnswer hN, bnd_mk, getI_D h.1 h.2, bnd_mk]
  cases isWord w <;> rfl
/-- the indices where something holds -/
def atI {α : Type} (p : Nat → α → Bool) : List α → Nat → List Int → List Int
 | [], _, a => a
 | x :: r, i, a => atI p r (i + 1) (if p i x = true then a ++ [(i : Int)] else a)
theorem loop_idxI {α γ : Type} {l : List α} {step : List Int × Int → Option (Sum (List Int × Int) γ)} (p : Nat → α → Bool) {fi : List Int → γ} {N : Nat}
  (hs : ∀ i x a, l[i]? = some x → i < l.length → a.length ≤ i → step (a, (i : Int)) = some (.inl (if p i x = true then a ++ [(i : Int)] else a, w64 ((i : Int) + 1)))) (he : ∀ a, step (a, (l.length : Int)) = some (.inr (fi a)))
  (hl : l.length ≤ 4611686018427387904) (hN : l.length < N) : loopN step N ([], 0) = some (fi (atI p l 0 [])) := by
 have := loopN_list (N := N) (step := step) (fun i (a : Nat × List Int) => (a.2, (i : Int))) l (fun r a => fi (atI p r a.1 a.2)) (fun i a => a.1 = i ∧ a.2.length ≤ i) (a := (0, [])) ⟨rfl, Nat.le_refl _⟩
  (fun a _ => by rw [he]; rfl)
  (fun i a x r ha hx hr hi => by
   obtain ⟨h1, h2⟩ := ha
   refine .inl ⟨(i + 1, if p i x = true then a.2 ++ [(i : Int)] else a.2), ?_, ⟨rfl, len_if h2⟩, ?_⟩
   ·rw [hs i x a.2 hx hi h2, w64_nat (by omega)]
   ·simp only [atI, h1]) hN
 simpa using this
def rights (g : Gx.Grid) (f : List UInt8) (seals : List Int) (salt : Int) : List Int := atI (fun i w => checksV seals salt (i : Int) w) (patterns g f) 0 []
theorem p_i_RightSlots {N : Nat} (hN : 67108864 < N) (g : Gx.Grid) (f : List UInt8) (seals : List Int) (salt : Int) : i_RightSlots N g f seals salt = some (rights g f seals salt) := by
 have h72 := pats_len g f
 unfold i_RightSlots
 rw [p_i_patterns hN, bnd_mk, loop_idxI (N := N) (l := patterns g f) (step := i_RightSlots_L1 N (patterns g f) seals salt) (fun i w => checksV seals salt (i : Int) w) (fi := fun a => a) (fun i x a hx hi ha => by
  unfold i_RightSlots_L1
  simp only
  rw [sel_pos (by omega), getI_nat hx, bnd_mk, p_i_ChecksAnswer hN, bnd_mk]
  cases checksV seals salt (i : Int) x
  ·rfl
  ·rw [sel_true, chk_pos (by simp; omega), if_pos rfl]) (fun a => by unfold i_RightSlots_L1; rw [sel_neg (by simp only; omega)]) (by omega) (by omega)]
 rfl
theorem p_s_RightSlots {N : Nat} (hN : 67108864 < N) (g : Gx.Grid) (hg : g.mCells.length ≤ 1048576) (f : List UInt8) (seals : List Int) (hl : seals.length ≤ 1048576) (salt : Int) : s_RightSlots N g f seals salt = some (rights g f seals salt) := by
 have h72 := slots_len g
 unfold s_RightSlots
 rw [p_s_SlotsOf hN g hg, bnd_mk]
 cases hf : isFill g f with
 | false =>
  have hp : patterns g f = [] := by unfold patterns; rw [hf]; rfl
  have e : s_RightSlots_L1 N (slots g) g f seals salt ([], 0) = some (.inr []) := by
   unfold s_RightSlots_L1
   simp only
   by_cases h0 : (0 : Int) < ((slots g).length : Int)
   ·rw [sel_pos h0, p_s_IsFill hN, hf]; rfl
   ·rw [sel_neg h0]
  obtain ⟨M, rfl⟩ : ∃ k, N = k + 1 := ⟨N - 1, by omega⟩
  simp only [loopN, e, rights, hp, atI, bnd_mk]
 | true =>
  have hpl := patterns_len hf
  rw [loop_idxI (N := N) (l := patterns g f) (step := s_RightSlots_L1 N (slots g) g f seals salt) (fun i w => checksV seals salt (i : Int) w) (fi := fun a => a) (fun i x a hx hi ha => by
   have ep : patAt g f (i : Int) = x := by unfold patAt; rw [if_pos (by omega), Int.toNat_natCast, List.getD_eq_getElem?_getD, hx]; rfl
   unfold s_RightSlots_L1
   simp only
   rw [sel_pos (by omega), p_s_IsFill hN, hf, bnd_mk, sel_true, p_s_SlotPattern hN g f hg, bnd_mk, ep, p_s_ChecksAnswer hN seals hl, bnd_mk]
   cases checksV seals salt (i : Int) x
   ·rfl
   ·rw [sel_true, chk_pos (by simp; omega), if_pos rfl]) (fun a => by unfold s_RightSlots_L1; rw [sel_neg (by simp only; omega)]) (by omega) (by omega)]
  rfl
def isFull (g : Gx.Grid) (f : List UInt8) : Bool := isFill g f && !isOpen f
theorem fill_len {g : Gx.Grid} {f : List UInt8} (h : isFill g f = true) : f.length ≤ 36 := by
 obtain ⟨G, hl⟩ := isFill_ok h
 obtain ⟨R, C, D⟩ := G.dims
 have := D.len
 have := Nat.mul_le_mul D.r2.2 D.c2.2
 omega
theorem p_i_IsFull {N : Nat} (hN : 67108864 < N) (g : Gx.Grid) (f : List UInt8) : i_IsFull N g f = some (isFull g f) := by
 unfold i_IsFull isFull
 rw [p_i_IsFill hN, bnd_mk]
 cases h : isFill g f with
 | false => rfl
 | true => have := fill_len h; rw [sel_true, p_i_openIn f (by omega) (by omega), bnd_mk, openN_zero]; rfl
theorem p_s_IsFull {N : Nat} (hN : 67108864 < N) (g : Gx.Grid) (f : List UInt8) : s_IsFull N g f = some (isFull g f) := by
 unfold s_IsFull isFull
 rw [p_s_IsFill hN, bnd_mk]
 cases h : isFill g f with
 | false => rfl
 | true => have := fill_len h; rw [sel_true, p_s_l11Open f (by omega) (by omega), bnd_mk]; rfl
structure PuzFine (p : Gx.Puzzle) : Prop where
 grid : isGrid p.mGrid = true
 clues : p.mClues.length = (slots p.mGrid).length
 seals : p.mSeals.length = (slots p.mGrid).length
 clue : ∀ c ∈ p.mClues, isClue c = true
def puzB (N : Nat) (p : Gx.Puzzle) : Bool := (s_IsPuzzle N p).getD false
theorem puzB_ok {N : Nat} (hN : 67108864 < N) {p : Gx.Puzzle} (hp : PuzSmall p) : i_IsPuzzle N p = some (puzB N p) ∧ s_IsPuzzle N p = some (puzB N p) ∧ (puzB N p = true → PuzFine p) := by
 obtain ⟨b, q1, q2, q3⟩ := p_IsPuzzle hN hp
 unfold puzB
 rw [q1, q2]
 refine ⟨rfl, rfl, fun h => ?_⟩
 obtain ⟨a1, a2, a3, a4⟩ := q3 h
 exact ⟨a1, a2, a3, a4⟩
def solvedB (N : Nat) (p : Gx.Puzzle) (f : List UInt8) : Bool := puzB N p && (isFull p.mGrid f && (((rights p.mGrid f p.mSeals p.mSalt).length : Int) == (p.mClues.length : Int)))
theorem p_i_IsSolved {N : Nat} (hN : 67108864 < N) {p : Gx.Puzzle} (hp : PuzSmall p) (f : List UInt8) : i_IsSolved N p f = some (solvedB N p f) := by
 obtain ⟨q1, _, q3⟩ := puzB_ok hN hp
 unfold i_IsSolved solvedB
 rw [q1, bnd_mk]
 cases h : puzB N p with
 | false => rfl
 | true =>
  have := q3 h
  rw [sel_true, p_i_IsFull hN, bnd_mk, p_i_RightSlots hN, bnd_mk, this.seals, this.clues]
  cases isFull p.mGrid f <;> rfl
theorem p_s_IsSolved {N : Nat} (hN : 67108864 < N) {p : Gx.Puzzle} (hp : PuzSmall p) (hl : p.mSeals.length ≤ 1048576) (f : List UInt8) : s_IsSolved N p f = some (solvedB N p f) := by
 obtain ⟨_, q2, q3⟩ := puzB_ok hN hp
 unfold s_IsSolved solvedB
 rw [q2, bnd_mk]
 cases h : puzB N p with
 | false => rfl
 | true =>
  rw [sel_true, p_s_IsFull hN, bnd_mk, p_s_RightSlots hN _ hp.cells _ _ hl, bnd_mk]
  cases isFull p.mGrid f <;> rfl
def issB (N : Nat) (x : Gx.Issue) : Bool := inR x.mNumber 1 999 && (solvedB N x.mPuzzle x.mFill && (decide (x.mOpen ≥ 0) && (decide (x.mOpen < x.mClose) && decide (x.mClose ≤ 1000))))
theorem p_i_IsIssue {N : Nat} (hN : 67108864 < N) {x : Gx.Issue} (hx : CpIss x) : i_IsIssue N x = some (issB N x) := by
 unfold i_IsIssue issB
 rw [p_i_inR, bnd_mk, p_i_IsSolved hN (puz_small hx), bnd_mk]
 cases inR x.mNumber 1 999 <;> cases solvedB N x.mPuzzle x.mFill <;> cases decide (x.mOpen ≥ 0) <;> cases decide (x.mOpen < x.mClose) <;> rfl
theorem p_s_IsIssue {N : Nat} (hN : 67108864 < N) {x : Gx.Issue} (hx : CpIss x) : s_IsIssue N x = some (issB N x) := by
 unfold s_IsIssue issB
 rw [p_s_inR, bnd_mk, p_s_IsSolved hN (puz_small hx) hx.seals, bnd_mk]
 cases inR x.mNumber 1 999 <;> cases solvedB N x.mPuzzle x.mFill <;> cases decide (x.mOpen ≥ 0) <;> cases decide (x.mOpen < x.mClose) <;> rfl
def entB (N : Nat) (e : Gx.Entry) (x : Gx.Issue) : Bool := inR e.mPlayer 1 99 && ((e.mIssue == x.mNumber) && (issB N x && ((decide (e.mTick ≥ x.mOpen) && decide (e.mTick < x.mClose)) && isFill x.mPuzzle.mGrid e.mFill)))
theorem p_i_IsEntry {N : Nat} (hN : 67108864 < N) (e : Gx.Entry) {x : Gx.Issue} (hx : CpIss x) : i_IsEntry N e x = some (entB N e x) := by
 unfold i_IsEntry entB i_IsOpen
 rw [p_i_inR, bnd_mk, p_i_IsIssue hN hx, bnd_mk, p_i_IsFill hN, bnd_mk]
 cases inR e.mPlayer 1 99 <;> cases e.mIssue == x.mNumber <;> cases issB N x <;> cases decide (e.mTick ≥ x.mOpen) <;> cases decide (e.mTick < x.mClose) <;> rfl
theorem p_s_IsEntry {N : Nat} (hN : 67108864 < N) (e : Gx.Entry) {x : Gx.Issue} (hx : CpIss x) : s_IsEntry N e x = some (entB N e x) := by
 unfold s_IsEntry entB s_IsOpen
 rw [p_s_inR, bnd_mk, p_s_IsIssue hN hx, bnd_mk, p_s_IsFill hN, bnd_mk]
 cases inR e.mPlayer 1 99 <;> cases e.mIssue == x.mNumber <;> cases issB N x <;> cases decide (e.mTick ≥ x.mOpen) <;> cases decide (e.mTick < x.mClose) <;> rfl
theorem cp_none : CpIss noIss := ⟨by simp [noIss], by simp [noIss], by simp [noIss], by simp [noIss]⟩
theorem cp_of {l : List Gx.Issue} (h : ∀ x ∈ l, CpIss x) (n : Int) : CpIss (issueOf l n).1 := by
 rcases issueOf_in l n with e | ⟨_, e, _⟩
 ·rw [e]; exact cp_none
 ·exact h _ e
theorem less_same : ∀ (w : List UInt8), Op.bytesLess w w = false
 | [] => rfl
 | c :: r => by unfold Op.bytesLess; rw [less_same r]; simp
theorem before_same (w : List UInt8) : beforeW w w = false := by unfold beforeW; rw [if_neg (by simp)]; exact less_same w
/-- what holds between an entry and the one before it -/
def prevB {α : Type} (q : α → α → Bool) (l : List α) (i : Nat) (x : α) : Bool := match i with | 0 => true | k + 1 => match l[k]? with | some y => q y x | none => true
theorem prevB_zero {α : Type} {q : α → α → Bool} {l : List α} {i : Nat} {x : α} (h : i = 0) : prevB q l i x = true := by subst h; rfl
theorem prevB_pos {α : Type} {q : α → α → Bool} {l : List α} {i : Nat} {x y : α} (h : i ≠ 0) (hy : l[i - 1]? = some y) : prevB q l i x = q y x := by
 cases i with
 | zero => exact absurd rfl h
 | succ k => simp only [prevB]; rw [show k + 1 - 1 = k from rfl] at hy; rw [hy]
def beforeM (a b : Gx.Meaning) : Bool := if (a.mWord != b.mWord) = true then beforeW a.mWord b.mWord else decide (a.mSense < b.mSense)
theorem p_i_beforeMeaning (N : Nat) (a b : Gx.Meaning) : i_beforeMeaning N a b = some (beforeM a b) := by
 unfold i_beforeMeaning beforeM
 rw [p_i_BeforeWord, bnd_mk, sel_eq]; split <;> rfl
theorem p_s_l17Before (N : Nat) (a b : Gx.Meaning) : s_l17Before N a b = some (beforeM a b) := by
 unfold s_l17Before beforeM
 rw [p_s_BeforeWord, bnd_mk]
 by_cases h : a.mWord = b.mWord
 ·rw [h, before_same, if_neg (by simp), beq_self_eq_true]; rfl
 ·rw [if_pos (by simpa using h), beq_eq_false_iff_ne.2 h]; cases beforeW a.mWord b.mWord <;> rfl
def okM (l : List Gx.Meaning) (i : Nat) (x : Gx.Meaning) : Bool := prevB beforeM l i x && (isWord x.mWord && inR x.mSense 1 99)
def isDict (l : List Gx.Meaning) : Bool := decide (l.length ≤ 40) && allI (okM l) l 0
theorem p_i_IsDictionary {N : Nat} (hN : 67108864 < N) (l : List Gx.Meaning) : i_IsDictionary N l = some (isDict l) := by
 unfold i_IsDictionary isDict
 by_cases h : l.length ≤ 40
 ·rw [sel_neg (by omega), decide_eq_true h, loop_allI (N := N) (γ := Unit) (l := l) (okM l) (b := false) (fun i x hx hi => by
   unfold i_IsDictionary_L1 okM
   rw [sel_pos (by omega), getI_nat hx, bnd_mk]
   simp only [p_i_IsWord hN, p_i_inR, bnd_mk]
   by_cases h0 : i = 0
   ·rw [sel_neg (by omega), prevB_zero h0]
    cases isWord x.mWord <;> cases inR x.mSense 1 99 <;> rfl
   ·obtain ⟨y, hy⟩ := prev_get hx h0
    rw [sel_pos (by omega), prevB_pos h0 hy, w64_pred h0 (by omega), getI_nat hy]
    simp only [p_i_beforeMeaning, bnd_mk]
    cases beforeM y x <;> cases isWord x.mWord <;> cases inR x.mSense 1 99 <;> rfl) (by unfold i_IsDictionary_L1; rw [sel_neg (by omega)]) (by omega) (by omega)]
  cases allI (okM l) l 0 <;> rfl
 ·rw [sel_pos (by omega), decide_eq_false h]; rfl
theorem p_s_IsDictionary {N : Nat} (hN : 67108864 < N) (l : List Gx.Meaning) (hl : l.length ≤ 1048576) : s_IsDictionary N l = some (isDict l) := by
 unfold s_IsDictionary isDict
 rw [loop_allI (N := N) (γ := Unit) (l := l) (okM l) (b := false) (fun i x hx hi => by
   unfold s_IsDictionary_L1 okM
   rw [sel_pos (by omega), getI_nat hx]
   simp only [p_s_IsWord hN, p_s_inR, bnd_mk]
   by_cases h0 : i = 0
   ·rw [sel_neg (by omega), prevB_zero h0]
    cases isWord x.mWord <;> cases inR x.mSense 1 99 <;> rfl
   ·obtain ⟨y, hy⟩ := prev_get hx h0
    rw [sel_pos (by omega), prevB_pos h0 hy, w64_pred h0 (by omega), getI_nat hy]
    simp only [p_s_l17Before, bnd_mk]
    cases beforeM y x <;> cases isWord x.mWord <;> cases inR x.mSense 1 99 <;> rfl) (by unfold s_IsDictionary_L1; rw [sel_neg (by omega)]) (by omega) (by omega)]
 have e : decide ((l.length : Int) ≤ 40) = decide (l.length ≤ 40) := by rw [Bool.eq_iff_iff]; simp only [decide_eq_true_eq]; omega
 rw [e]
 cases allI (okM l) l 0 <;> cases decide (l.length ≤ 40) <;> rfl
def beforeU (a b : Gx.Used) : Bool := if (a.mIssue != b.mIssue) = true then decide (a.mIssue < b.mIssue) else beforeW a.mWord b.mWord
theorem p_i_beforeUse (N : Nat) (a b : Gx.Used) : i_beforeUse N a b = some (beforeU a b) := by
 unfold i_beforeUse beforeU
 rw [p_i_BeforeWord, bnd_mk, sel_eq]; split <;> rfl
theorem p_s_l29Before (N : Nat) (a b : Gx.Used) : s_l29Before N a b = some (beforeU a b) := by
 unfold s_l29Before beforeU
 rw [p_s_BeforeWord, bnd_mk]
 by_cases h : a.mIssue = b.mIssue
 ·rw [h, sel_neg (by omega), if_neg (by simp), beq_self_eq_true]; rfl
 ·rw [if_pos (by simpa using h), beq_eq_false_iff_ne.2 h]; cases decide (a.mIssue < b.mIssue) <;> rfl
def okU (l : List Gx.Used) (i : Nat) (x : Gx.Used) : Bool := prevB beforeU l i x && (isWord x.mWord && inR x.mIssue 1 999)
def areUses (l : List Gx.Used) : Bool := decide (l.length ≤ 60) && allI (okU l) l 0
theorem p_i_AreUses {N : Nat} (hN : 67108864 < N) (l : List Gx.Used) : i_AreUses N l = some (areUses l) := by
 unfold i_AreUses areUses
 by_cases h : l.length ≤ 60
 ·rw [sel_neg (by omega), decide_eq_true h, loop_allI (N := N) (γ := Unit) (l := l) (okU l) (b := false) (fun i x hx hi => by
   unfold i_AreUses_L1 okU
   rw [sel_pos (by omega), getI_nat hx, bnd_mk]
   simp only [p_i_IsWord hN, p_i_inR, bnd_mk]
   by_cases h0 : i = 0
   ·rw [sel_neg (by omega), prevB_zero h0]
    cases isWord x.mWord <;> cases inR x.mIssue 1 999 <;> rfl
   ·obtain ⟨y, hy⟩ := prev_get hx h0
    rw [sel_pos (by omega), prevB_pos h0 hy, w64_pred h0 (by omega), getI_nat hy]
    simp only [p_i_beforeUse, bnd_mk]
    cases beforeU y x <;> cases isWord x.mWord <;> cases inR x.mIssue 1 999 <;> rfl) (by unfold i_AreUses_L1; rw [sel_neg (by omega)]) (by omega) (by omega)]
  cases allI (okU l) l 0 <;> rfl
 ·rw [sel_pos (by omega), decide_eq_false h]; rfl
theorem p_s_AreUses {N : Nat} (hN : 67108864 < N) (l : List Gx.Used) (hl : l.length ≤ 1048576) : s_AreUses N l = some (areUses l) := by
 unfold s_AreUses areUses
 rw [loop_allI (N := N) (γ := Unit) (l := l) (okU l) (b := false) (fun i x hx hi => by
   unfold s_AreUses_L1 okU
   rw [sel_pos (by omega), getI_nat hx]
   simp only [p_s_IsWord hN, p_s_inR, bnd_mk]
   by_cases h0 : i = 0
   ·rw [sel_neg (by omega), prevB_zero h0]
    cases isWord x.mWord <;> cases inR x.mIssue 1 999 <;> rfl
   ·obtain ⟨y, hy⟩ := prev_get hx h0
    rw [sel_pos (by omega), prevB_pos h0 hy, w64_pred h0 (by omega), getI_nat hy]
    simp only [p_s_l29Before, bnd_mk]
    cases beforeU y x <;> cases isWord x.mWord <;> cases inR x.mIssue 1 999 <;> rfl) (by unfold s_AreUses_L1; rw [sel_neg (by omega)]) (by omega) (by omega)]
 have e : decide ((l.length : Int) ≤ 60) = decide (l.length ≤ 60) := by rw [Bool.eq_iff_iff]; simp only [decide_eq_true_eq]; omega
 rw [e]
 cases allI (okU l) l 0 <;> cases decide (l.length ≤ 60) <;> rfl
def tickC (a b : Gx.Correction) : Bool := !decide (b.mTick < a.mTick)
def okC (l : List Gx.Correction) (i : Nat) (x : Gx.Correction) : Bool := inR x.mIssue 1 999 && (inR x.mSlot 0 99 && (isClue x.mClue && (inR x.mTick 0 1000 && prevB tickC l i x)))
def areCorr (l : List Gx.Correction) : Bool := decide (l.length ≤ 12) && allI (okC l) l 0
theorem p_i_AreCorrections {N : Nat} (hN : 67108864 < N) (l : List Gx.Correction) : i_AreCorrections N l = some (areCorr l) := by
 unfold i_AreCorrections areCorr
 by_cases h : l.length ≤ 12
 ·rw [sel_neg (by omega), decide_eq_true h, loop_allI (N := N) (γ := Unit) (l := l) (okC l) (b := false) (fun i x hx hi => by
   unfold i_AreCorrections_L1 okC
   rw [sel_pos (by omega), getI_nat hx, bnd_mk]
   simp only [p_i_IsClue hN, p_i_inR, bnd_mk]
   by_cases h0 : i = 0
   ·rw [sel_neg (by omega), prevB_zero h0]
    cases inR x.mIssue 1 999 <;> cases inR x.mSlot 0 99 <;> cases isClue x.mClue <;> cases inR x.mTick 0 1000 <;> rfl
   ·obtain ⟨y, hy⟩ := prev_get hx h0
    rw [sel_pos (by omega), prevB_pos h0 hy, w64_pred h0 (by omega), getI_nat hy, bnd_mk]
    unfold tickC
    cases inR x.mIssue 1 999 <;> cases inR x.mSlot 0 99 <;> cases isClue x.mClue <;> cases inR x.mTick 0 1000 <;> cases decide (x.mTick < y.mTick) <;> rfl) (by unfold i_AreCorrections_L1; rw [sel_neg (by omega)]) (by omega) (by omega)]
  cases allI (okC l) l 0 <;> rfl
 ·rw [sel_pos (by omega), decide_eq_false h]; rfl
theorem p_s_AreCorrections {N : Nat} (hN : 67108864 < N) (l : List Gx.Correction) (hl : l.length ≤ 1048576) : s_AreCorrections N l = some (areCorr l) := by
 unfold s_AreCorrections areCorr
 rw [loop_allI (N := N) (γ := Unit) (l := l) (okC l) (b := false) (fun i x hx hi => by
   unfold s_AreCorrections_L1 okC
   rw [sel_pos (by omega), getI_nat hx, bnd_mk]
   simp only [p_s_IsClue hN, p_s_inR, bnd_mk]
   by_cases h0 : i = 0
   ·rw [sel_neg (by omega), prevB_zero h0]
    cases inR x.mIssue 1 999 <;> cases inR x.mSlot 0 99 <;> cases isClue x.mClue <;> cases inR x.mTick 0 1000 <;> rfl
   ·obtain ⟨y, hy⟩ := prev_get hx h0
    rw [sel_pos (by omega), prevB_pos h0 hy, w64_pred h0 (by omega), getI_nat hy, bnd_mk]
    unfold tickC
    have e : decide (y.mTick > x.mTick) = decide (x.mTick < y.mTick) := rfl
    rw [e]
    cases inR x.mIssue 1 999 <;> cases inR x.mSlot 0 99 <;> cases isClue x.mClue <;> cases inR x.mTick 0 1000 <;> cases decide (x.mTick < y.mTick) <;> rfl) (by unfold s_AreCorrections_L1; rw [sel_neg (by omega)]) (by omega) (by omega)]
 have e : decide ((l.length : Int) ≤ 12) = decide (l.length ≤ 12) := by rw [Bool.eq_iff_iff]; simp only [decide_eq_true_eq]; omega
 rw [e]
 cases allI (okC l) l 0 <;> cases decide (l.length ≤ 12) <;> rfl
def zeroClue (c : Gx.Clue) : Bool := (c.mSense == 0) && ((c.mPlay.length : Int) == 0)
theorem p_s_l27Zero (N : Nat) (c : Gx.Clue) : s_l27Zero N c = some (zeroClue c) := by unfold s_l27Zero zeroClue; cases c.mSense == 0 <;> rfl
theorem p_g_EqualStep_nil {N : Nat} (hN : 67108864 < N) (l : List Gx.Step) : g_slices_Equal_Simpl_Step_impl_Step N l [] = some ((l.length : Int) == 0) := by
 unfold g_slices_Equal_Simpl_Step_impl_Step
 cases l with
 | nil =>
  obtain ⟨M, rfl⟩ : ∃ k, N = k + 1 := ⟨N - 1, by omega⟩
  have e : g_slices_Equal_Simpl_Step_impl_Step_L1 (M + 1) [] [] 0 = some (.inr (.nx ())) := rfl
  simp only [loopN, e]; rfl
 | cons x r =>
  have e : (((x :: r).length : Int) != (([] : List Gx.Step).length : Int)) = true := by simp; omega
  have e' : (((x :: r).length : Int) == 0) = false := by simp; omega
  rw [e, e']; rfl
theorem p_i_sameZero {N : Nat} (hN : 67108864 < N) (c : Gx.Clue) : i_sameClue N c ⟨0, []⟩ = some (zeroClue c) := by
 unfold i_sameClue zeroClue
 rw [p_g_EqualStep_nil hN, bnd_mk]
 cases c.mSense == 0 <;> rfl
def draftOk (c : Gx.Clue) : Bool := zeroClue c || isClue c
def formV (N : Nat) (g : Gx.Grid) : Int := (s_FormOf N g).getD 0
theorem formV_ok {N : Nat} (hN : 67108864 < N) (g : Gx.Grid) : i_FormOf N g = some (formV N g) ∧ s_FormOf N g = some (formV N g) ∧ (formV N g = 0 → isGrid g = true) := by
 obtain ⟨v, q1, q2, q3⟩ := p_FormOf hN g
 unfold formV
 rw [q1, q2]; exact ⟨rfl, rfl, q3⟩
def isDraft (N : Nat) (x : Gx.Draft) : Bool := (formV N x.mGrid == 0) && (isFill x.mGrid x.mFill && (((x.mClues.length : Int) == ((slots x.mGrid).length : Int)) && (inR x.mVersion 1 9999 && x.mClues.all draftOk)))
structure CpDraft (x : Gx.Draft) : Prop where
 clues : x.mClues.length ≤ 1048576
 play : ∀ c ∈ x.mClues, c.mPlay.length ≤ 1048576
 cells : x.mGrid.mCells.length ≤ 1048576
theorem p_i_IsDraft {N : Nat} (hN : 67108864 < N) {x : Gx.Draft} (hx : CpDraft x) : i_IsDraft N x = some (isDraft N x) := by
 obtain ⟨q1, _, _⟩ := formV_ok hN x.mGrid
 unfold i_IsDraft isDraft
 rw [q1, bnd_mk, p_i_IsFill hN, bnd_mk, p_i_SlotsOf hN, bnd_mk, p_i_inR, bnd_mk, p_g_ContainsClue x.mClues _ (fun c => !draftOk c) (fun c hc => by
  unfold i_IsDraft_1 draftOk
  rw [p_i_IsClue hN, bnd_mk, p_i_sameZero hN, bnd_mk]
  cases isClue c <;> cases zeroClue c <;> rfl) hx.clues hN, bnd_mk]
 have e : (!x.mClues.any fun c => !draftOk c) = x.mClues.all draftOk := by rw [List.any_eq_not_all_not]; simp
 rw [e]
 cases formV N x.mGrid == 0 <;> cases isFill x.mGrid x.mFill <;> cases (x.mClues.length : Int) == ((slots x.mGrid).length : Int) <;> cases inR x.mVersion 1 9999 <;> rfl
theorem p_s_IsDraft {N : Nat} (hN : 67108864 < N) {x : Gx.Draft} (hx : CpDraft x) : s_IsDraft N x = some (isDraft N x) := by
 obtain ⟨_, q2, _⟩ := formV_ok hN x.mGrid
 have hc := hx.clues
 unfold s_IsDraft isDraft
 rw [loop_all (N := N) (l := x.mClues) draftOk (b := false) (fun i c hc' hi => by
  unfold s_IsDraft_L1 draftOk
  rw [sel_pos (by omega), getI_nat hc', bnd_mk, p_s_l27Zero, bnd_mk, bnd_mk, p_s_IsClue hN, bnd_mk]
  cases zeroClue c <;> cases isClue c <;> rfl) (by unfold s_IsDraft_L1; rw [sel_neg (by omega)]) (by omega) (by omega), q2, bnd_mk, p_s_IsFill hN, bnd_mk, p_s_SlotsOf hN _ hx.cells, bnd_mk, p_s_inR, bnd_mk]
 cases x.mClues.all draftOk <;> cases formV N x.mGrid == 0 <;> cases isFill x.mGrid x.mFill <;> cases (x.mClues.length : Int) == ((slots x.mGrid).length : Int) <;> cases inR x.mVersion 1 9999 <;> rfl
def zeroDraft (x : Gx.Draft) : Bool := (x.mGrid.mRows == 0 && (x.mGrid.mCols == 0 && (x.mGrid.mCells == ([] : List UInt8) && true))) && ((x.mFill == ([] : List UInt8)) && (((x.mClues.length : Int) == 0) && (x.mVersion == 0)))
theorem p_s_l33Zero (N : Nat) (x : Gx.Draft) : s_l33Zero N x = some (zeroDraft x) := by
 unfold s_l33Zero zeroDraft
 cases (x.mGrid.mRows == 0 && (x.mGrid.mCols == 0 && (x.mGrid.mCells == ([] : List UInt8) && true))) <;> cases x.mFill == ([] : List UInt8) <;> cases (x.mClues.length : Int) == 0 <;> rfl
theorem p_i_zeroDraft {N : Nat} (hN : 67108864 < N) (x : Gx.Draft) : i_EqualDrafts N x (⟨⟨0, 0, []⟩, [], [], 0⟩ : Gx.Draft) = some (zeroDraft x) := by
 unfold i_EqualDrafts zeroDraft
 have e : g_slices_EqualFunc_Simpl_Clue_Simpl_Clue_impl_Clue_impl_Clue N x.mClues [] (fun a0 a1 => i_sameClue N a0 a1) = some ((x.mClues.length : Int) == 0) := by
  unfold g_slices_EqualFunc_Simpl_Clue_Simpl_Clue_impl_Clue_impl_Clue
  cases hc : x.mClues with
  | nil =>
   obtain ⟨M, rfl⟩ : ∃ k, N = k + 1 := ⟨N - 1, by omega⟩
   have e : g_slices_EqualFunc_Simpl_Clue_Simpl_Clue_impl_Clue_impl_Clue_L1 (M + 1) [] [] (fun a0 a1 => i_sameClue (M + 1) a0 a1) 0 = some (.inr (.nx ())) := rfl
   simp only [loopN, e]; rfl
  | cons c r =>
   have e : (((c :: r).length : Int) != (([] : List Gx.Clue).length : Int)) = true := by simp; omega
   have e' : (((c :: r).length : Int) == 0) = false := by simp; omega
   rw [e, e']; rfl
 rw [e, bnd_mk]
 cases (x.mGrid.mRows == 0 && (x.mGrid.mCols == 0 && (x.mGrid.mCells == ([] : List UInt8) && true))) <;> cases x.mFill == ([] : List UInt8) <;> cases (x.mClues.length : Int) == 0 <;> rfl
structure CpHouse (h : Gx.House) : Prop where
 list : h.mList.length ≤ 1048576
 dict : h.mDict.length ≤ 1048576
 desk : CpDraft h.mDesk
 issl : h.mIssues.length ≤ 1048576
 iss : ∀ x ∈ h.mIssues, CpIss x
 uses : h.mUses.length ≤ 1048576
 corr : h.mCorrections.length ≤ 1048576
 corrp : ∀ c ∈ h.mCorrections, c.mClue.mPlay.length ≤ 1048576
 ents : h.mEntries.length ≤ 1048576
theorem cp_house {h : Gx.House} (hs : h.size ≤ 1048576) : CpHouse h := by
 obtain ⟨h1, h2⟩ := cp_issues hs
 unfold Gx.House.size Gx.Draft.size Gx.Grid.size at hs
 refine ⟨by omega, by omega, ⟨by omega, fun c hc => ?_, by omega⟩, h1, h2, by omega, by omega, fun c hc => ?_, by omega⟩
 ·have h3 : c.size ≤ (h.mDesk.mClues.map (fun e : Gx.Clue => e.size)).sum := mem_sum (fun e : Gx.Clue => e.size) hc
  have := @cp_clue c
  omega
 ·have h3 : c.size ≤ (h.mCorrections.map (fun e : Gx.Correction => e.size)).sum := mem_sum (fun e : Gx.Correction => e.size) hc
  have h4 := @cp_clue c.mClue
  have h5 : c.mClue.size ≤ c.size := by unfold Gx.Correction.size; omega
  omega
def okIss (N : Nat) (i : Nat) (x : Gx.Issue) : Bool := issB N x && (x.mNumber == ((i + 1 : Nat) : Int))
def okCor (h : Gx.House) (c : Gx.Correction) : Bool := (issueOf h.mIssues c.mIssue).2 && ((decide (0 ≤ c.mSlot) && decide (c.mSlot < ((issueOf h.mIssues c.mIssue).1.mPuzzle.mClues.length : Int))) && !decide (c.mTick > h.mNow))
def okCorS (h : Gx.House) (c : Gx.Correction) : Bool := (issueOf h.mIssues c.mIssue).2 && (decide (c.mSlot < ((issueOf h.mIssues c.mIssue).1.mPuzzle.mClues.length : Int)) && !decide (c.mTick > h.mNow))
def okEnt (N : Nat) (h : Gx.House) (e : Gx.Entry) : Bool := (issueOf h.mIssues e.mIssue).2 && (entB N e (issueOf h.mIssues e.mIssue).1 && !decide (e.mTick > h.mNow))
def isHouse (N : Nat) (h : Gx.House) : Bool := isList h.mList && (isDict h.mDict && ((zeroDraft h.mDesk || isDraft N h.mDesk) && (decide (h.mIssues.length ≤ 5) && (allI (okIss N) h.mIssues 0 && (areUses h.mUses && (areCorr h.mCorrections && (decide (h.mEntries.length ≤ 12) && (inR h.mNow 0 1000 && (h.mCorrections.all (okCor h) && h.mEntries.all (okEnt N h))))))))))
theorem p_i_IsHouse {N : Nat} (hN : 67108864 < N) {h : Gx.House} (hx : CpHouse h) : i_IsHouse N h = some (isHouse N h) := by
 have l1 := hx.issl
 have l2 := hx.corr
 have l3 := hx.ents
 unfold i_IsHouse isHouse
 have e5 : decide ((h.mIssues.length : Int) > 5) = !decide (h.mIssues.length ≤ 5) := by rw [Bool.eq_iff_iff]; simp only [decide_eq_true_eq, Bool.not_eq_true', decide_eq_false_iff_not]; omega
 have e12 : decide ((h.mEntries.length : Int) > 12) = !decide (h.mEntries.length ≤ 12) := by rw [Bool.eq_iff_iff]; simp only [decide_eq_true_eq, Bool.not_eq_true', decide_eq_false_iff_not]; omega
 rw [p_i_IsList hN, bnd_mk, p_i_IsDictionary hN, bnd_mk, p_i_zeroDraft hN, bnd_mk, p_i_IsDraft hN hx.desk, bnd_mk, e5, p_i_AreUses hN, bnd_mk, p_i_AreCorrections hN, bnd_mk, e12, p_i_inR, bnd_mk,
  loop_allI (N := N) (γ := Bool) (l := h.mIssues) (okIss N) (b := false) (fun i x hx' hi => by
   unfold i_IsHouse_L1 okIss
   rw [sel_pos (by omega), getI_nat hx', bnd_mk, p_i_IsIssue hN (hx.iss x (List.mem_of_getElem? hx')), bnd_mk, w64_nat (by omega)]
   simp only [bne]
   cases issB N x <;> cases x.mNumber == ((i + 1 : Nat) : Int) <;> rfl) (by unfold i_IsHouse_L1; rw [sel_neg (by omega)]) (by omega) (by omega),
  loop_all (N := N) (l := h.mCorrections) (okCor h) (b := false) (fun i c hc hi => by
   unfold i_IsHouse_L2 okCor
   rw [sel_pos (by omega), getI_nat hc, bnd_mk, p_i_IssueOf hN h _ hx.issl hx.iss, bnd_mk, p_i_at, bnd_mk]
   cases (issueOf h.mIssues c.mIssue).2 <;> cases (decide (0 ≤ c.mSlot) && decide (c.mSlot < ((issueOf h.mIssues c.mIssue).1.mPuzzle.mClues.length : Int))) <;> cases decide (c.mTick > h.mNow) <;> rfl) (by unfold i_IsHouse_L2; rw [sel_neg (by omega)]) (by omega) (by omega),
  loop_all (N := N) (l := h.mEntries) (okEnt N h) (b := false) (fun i e he hi => by
   unfold i_IsHouse_L3 okEnt
   rw [sel_pos (by omega), getI_nat he, bnd_mk, p_i_IssueOf hN h _ hx.issl hx.iss, bnd_mk, p_i_IsEntry hN e (cp_of hx.iss _), bnd_mk]
   cases (issueOf h.mIssues e.mIssue).2 <;> cases entB N e (issueOf h.mIssues e.mIssue).1 <;> cases decide (e.mTick > h.mNow) <;> rfl) (by unfold i_IsHouse_L3; rw [sel_neg (by omega)]) (by omega) (by omega)]
 cases isList h.mList
 ·rfl
 cases isDict h.mDict
 ·rfl
 cases zeroDraft h.mDesk <;> cases isDraft N h.mDesk <;> cases decide (h.mIssues.length ≤ 5) <;> try rfl
 all_goals
  cases allI (okIss N) h.mIssues 0
  ·rfl
  cases areUses h.mUses
  ·rfl
  cases areCorr h.mCorrections
  ·rfl
  cases decide (h.mEntries.length ≤ 12)
  ·rfl
  cases inR h.mNow 0 1000
  ·rfl
  cases h.mCorrections.all (okCor h) <;> cases h.mEntries.all (okEnt N h) <;> rfl
theorem corr_same {h : Gx.House} (ha : areCorr h.mCorrections = true) : h.mCorrections.all (okCorS h) = h.mCorrections.all (okCor h) := by
 unfold areCorr at ha
 simp only [Bool.and_eq_true] at ha
 have key : ∀ c ∈ h.mCorrections, okCorS h c = okCor h c := by
  intro c hc
  obtain ⟨k, hk, rfl⟩ := List.mem_iff_getElem.1 hc
  have := allI_get (okC h.mCorrections) h.mCorrections 0 ha.2 k h.mCorrections[k] (List.getElem?_eq_getElem hk)
  unfold okC inR at this
  simp only [Bool.and_eq_true, decide_eq_true_eq] at this
  unfold okCorS okCor
  rw [decide_eq_true this.2.1.1, Bool.true_and]
 rw [Bool.eq_iff_iff, List.all_eq_true, List.all_eq_true]
 exact ⟨fun H c hc => by rw [← key c hc]; exact H c hc, fun H c hc => by rw [key c hc]; exact H c hc⟩
theorem p_s_l33Rest {N : Nat} (hN : 67108864 < N) {h : Gx.House} (hx : CpHouse h) : s_l33Rest N h = some (h.mCorrections.all (okCorS h) && (h.mEntries.all (okEnt N h) && (areUses h.mUses && (areCorr h.mCorrections && decide (h.mEntries.length ≤ 12))))) := by
 have l2 := hx.corr
 have l3 := hx.ents
 unfold s_l33Rest
 have e12 : decide ((h.mEntries.length : Int) ≤ 12) = decide (h.mEntries.length ≤ 12) := by rw [Bool.eq_iff_iff]; simp only [decide_eq_true_eq]; omega
 rw [p_s_AreUses hN _ hx.uses, bnd_mk, p_s_AreCorrections hN _ hx.corr, bnd_mk, e12,
  loop_all (N := N) (l := h.mCorrections) (okCorS h) (b := false) (fun i c hc hi => by
   unfold s_l33Rest_L1 okCorS
   rw [sel_pos (by omega), getI_nat hc, bnd_mk, p_s_IssueOf hN h _ hx.issl hx.iss, bnd_mk, bnd_mk, bnd_mk]
   have e : decide (c.mSlot ≥ ((issueOf h.mIssues c.mIssue).1.mPuzzle.mClues.length : Int)) = !decide (c.mSlot < ((issueOf h.mIssues c.mIssue).1.mPuzzle.mClues.length : Int)) := by rw [Bool.eq_iff_iff]; simp only [decide_eq_true_eq, Bool.not_eq_true', decide_eq_false_iff_not]; omega
   rw [e]
   cases (issueOf h.mIssues c.mIssue).2 <;> cases decide (c.mSlot < ((issueOf h.mIssues c.mIssue).1.mPuzzle.mClues.length : Int)) <;> cases decide (c.mTick > h.mNow) <;> rfl) (by unfold s_l33Rest_L1; rw [sel_neg (by omega)]) (by omega) (by omega),
  loop_all (N := N) (l := h.mEntries) (okEnt N h) (b := false) (fun i e he hi => by
   unfold s_l33Rest_L2 okEnt
   rw [sel_pos (by omega), getI_nat he, bnd_mk, p_s_IssueOf hN h _ hx.issl hx.iss, bnd_mk, bnd_mk, p_s_IsEntry hN e (cp_of hx.iss _), bnd_mk, bnd_mk]
   cases (issueOf h.mIssues e.mIssue).2 <;> cases entB N e (issueOf h.mIssues e.mIssue).1 <;> cases decide (e.mTick > h.mNow) <;> rfl) (by unfold s_l33Rest_L2; rw [sel_neg (by omega)]) (by omega) (by omega)]
 cases h.mCorrections.all (okCorS h) <;> cases h.mEntries.all (okEnt N h) <;> cases areUses h.mUses <;> cases areCorr h.mCorrections <;> rfl
theorem p_s_IsHouse {N : Nat} (hN : 67108864 < N) {h : Gx.House} (hx : CpHouse h) : s_IsHouse N h = some (isHouse N h) := by
 have l1 := hx.issl
 unfold s_IsHouse
 have e5 : decide ((h.mIssues.length : Int) ≤ 5) = decide (h.mIssues.length ≤ 5) := by rw [Bool.eq_iff_iff]; simp only [decide_eq_true_eq]; omega
 rw [p_s_IsList hN _ hx.list, bnd_mk, p_s_IsDictionary hN _ hx.dict, bnd_mk, p_s_l33Zero, bnd_mk, p_s_IsDraft hN hx.desk, bnd_mk, e5, p_s_l33Rest hN hx, bnd_mk, p_s_inR, bnd_mk,
  loop_allI (N := N) (γ := Bool) (l := h.mIssues) (okIss N) (b := false) (fun i x hx' hi => by
   unfold s_IsHouse_L1 okIss
   rw [sel_pos (by omega), getI_nat hx', bnd_mk, p_s_IsIssue hN (hx.iss x (List.mem_of_getElem? hx')), bnd_mk, bnd_mk, w64_nat (by omega)]
   simp only [bne]
   cases issB N x <;> cases x.mNumber == ((i + 1 : Nat) : Int) <;> rfl) (by unfold s_IsHouse_L1; rw [sel_neg (by omega)]) (by omega) (by omega)]
 unfold isHouse
 have e1 : areCorr h.mCorrections = true → h.mCorrections.all (okCorS h) = h.mCorrections.all (okCor h) := corr_same
 generalize h.mCorrections.all (okCorS h) = u at e1 ⊢
 generalize h.mCorrections.all (okCor h) = v at e1 ⊢
 cases allI (okIss N) h.mIssues 0
 ·cases isList h.mList <;> cases isDict h.mDict <;> cases zeroDraft h.mDesk <;> cases isDraft N h.mDesk <;> cases decide (h.mIssues.length ≤ 5) <;> rfl
 cases isList h.mList
 ·rfl
 cases isDict h.mDict
 ·rfl
 cases hc : areCorr h.mCorrections with
 | false => cases zeroDraft h.mDesk <;> cases isDraft N h.mDesk <;> cases decide (h.mIssues.length ≤ 5) <;> cases u <;> cases h.mEntries.all (okEnt N h) <;> cases areUses h.mUses <;> rfl
 | true =>
  rw [e1 hc]
  cases zeroDraft h.mDesk <;> cases isDraft N h.mDesk <;> cases decide (h.mIssues.length ≤ 5) <;> cases v <;> cases h.mEntries.all (okEnt N h) <;> cases areUses h.mUses <;> cases decide (h.mEntries.length ≤ 12) <;> cases inR h.mNow 0 1000 <;> rfl
theorem p_i_copyDraft {N : Nat} (hN : 67108864 < N) {x : Gx.Draft} (hx : CpDraft x) : i_copyDraft N x = some x := by
 unfold i_copyDraft
 rw [p_i_copyClues hN _ hx.clues hx.play, bnd_mk]
theorem p_s_l27Copy {N : Nat} (hN : 67108864 < N) {x : Gx.Draft} (hx : CpDraft x) : s_l27Copy N x = some x := by
 unfold s_l27Copy
 rw [p_s_l21Clues hN _ hx.clues hx.play, bnd_mk]
theorem p_i_copyCorrections {N : Nat} (hN : 67108864 < N) (l : List Gx.Correction) (hl : l.length ≤ 1048576) (hp : ∀ c ∈ l, c.mClue.mPlay.length ≤ 1048576) : i_copyCorrections N l = some l := by
 unfold i_copyCorrections
 rw [loop_map (N := N) (l := l) (fun x => x) (fi := id) (fun i x a hx hi ha => by
  have hc := hp x (List.mem_of_getElem? hx)
  unfold i_copyCorrections_L1 i_copyClue g_slices_Clone_Simpl_Step_impl_Step
  simp only
  rw [sel_pos (by omega), getI_nat hx, bnd_mk, chk_pos (by omega), bnd_mk, bnd_mk, chk_pos (by simp; omega)]) (fun a => by unfold i_copyCorrections_L1; rw [sel_neg (by simp)]; rfl) (by omega) (by omega)]
 simp
theorem p_s_l31Copy {N : Nat} (hN : 67108864 < N) (l : List Gx.Correction) (hl : l.length ≤ 1048576) (hp : ∀ c ∈ l, c.mClue.mPlay.length ≤ 1048576) : s_l31Copy N l = some l := by
 unfold s_l31Copy
 rw [loop_map (N := N) (l := l) (fun x => x) (fi := id) (fun i x a hx hi ha => by
  have hc := hp x (List.mem_of_getElem? hx)
  unfold s_l31Copy_L1 s_l18Copy
  simp only
  rw [sel_pos (by omega), getI_nat hx, bnd_mk, chk_pos (by simp; omega), bnd_mk, chk_pos (by simp; omega)]) (fun a => by unfold s_l31Copy_L1; rw [sel_neg (by simp)]; rfl) (by omega) (by omega)]
 simp
theorem p_i_copyHouse {N : Nat} (hN : 67108864 < N) {h : Gx.House} (hx : CpHouse h) : i_copyHouse N h = some h := by
 have l1 := hx.list
 have l2 := hx.dict
 have l3 := hx.uses
 have l4 := hx.ents
 have l5 := hx.issl
 unfold i_copyHouse g_slices_Clone_Simpl_Listed_impl_Listed g_slices_Clone_Simpl_Meaning_impl_Meaning g_slices_Clone_Simpl_Used_impl_Used g_slices_Clone_Simpl_Entry_impl_Entry
 rw [chk_pos (by omega), bnd_mk, chk_pos (by omega), bnd_mk, p_i_copyDraft hN hx.desk, bnd_mk,
  loop_map (N := N) (l := h.mIssues) (fun x => x) (fi := id) (fun i x a hx' hi ha => by
   unfold i_copyHouse_L1
   simp only
   rw [sel_pos (by omega), getI_nat hx', bnd_mk, p_i_copyIssue hN (hx.iss x (List.mem_of_getElem? hx')), bnd_mk, chk_pos (by simp; omega)]) (fun a => by unfold i_copyHouse_L1; rw [sel_neg (by simp)]; rfl) (by omega) (by omega),
  bnd_mk, chk_pos (by omega), bnd_mk, p_i_copyCorrections hN _ hx.corr hx.corrp, bnd_mk, chk_pos (by omega), bnd_mk, List.map_id']
 rfl
theorem p_s_l33Copy {N : Nat} (hN : 67108864 < N) {h : Gx.House} (hx : CpHouse h) : s_l33Copy N h = some h := by
 have l1 := hx.list
 have l2 := hx.dict
 have l3 := hx.uses
 have l4 := hx.ents
 have l5 := hx.issl
 unfold s_l33Copy
 rw [chk_pos (by simp; omega), chk_pos (by simp; omega), p_s_l27Copy hN hx.desk, bnd_mk, chk_pos (by simp; omega), p_s_l31Copy hN _ hx.corr hx.corrp, bnd_mk, chk_pos (by simp; omega),
  loop_map (N := N) (l := h.mIssues) (fun x => x) (fi := id) (fun i x a hx' hi ha => by
   unfold s_l33Copy_L1
   simp only
   rw [sel_pos (by omega), getI_nat hx', bnd_mk, p_s_l30Copy hN (hx.iss x (List.mem_of_getElem? hx')), bnd_mk, chk_pos (by simp; omega)]) (fun a => by unfold s_l33Copy_L1; rw [sel_neg (by simp)]; rfl) (by omega) (by omega),
  bnd_mk, List.map_id']
 rfl
theorem marks_house {N : Nat} (hN : 67108864 < N) (g : Gx.House) (hs : g.size ≤ 4194303) : ∃ a b c d e f i, ∃ n : Nat, l_markHouse N g 1 = some (a, b, c, d, e, f, i, (n : Int)) ∧
  l_heldHouse N ⟨a, b, ⟨⟨g.mDesk.mGrid.mRows, g.mDesk.mGrid.mCols, g.mDesk.mGrid.mCells⟩, g.mDesk.mFill, c, g.mDesk.mVersion⟩, d, e, f, i, g.mNow⟩ 1 = some (n : Int) := by
 have hc := cntHouse_le g 1
 have hm := p_markHouse hN g 1 (by omega)
 exact ⟨_, _, _, _, _, _, _, _, hm, p_heldHouse hN g _ 1 rfl rfl rfl rfl rfl rfl rfl (by omega)⟩
def noHouse : Gx.House := ⟨[], [], ⟨⟨0, 0, []⟩, [], [], 0⟩, [], [], [], [], 0⟩
def startHouse (l : List Gx.Listed) (d : List Gx.Meaning) : Gx.House := ⟨l, d, ⟨⟨0, 0, []⟩, [], [], 0⟩, [], [], [], [], 0⟩
def newHouse (N : Nat) (l : List Gx.Listed) (d : List Gx.Meaning) : Gx.House × Bool := if isHouse N (startHouse l d) = true then (startHouse l d, true) else (noHouse, false)
theorem startHouse_size (l : List Gx.Listed) (d : List Gx.Meaning) : (startHouse l d).size = l.length + (l.map (fun e : Gx.Listed => e.size)).sum + (d.length + (d.map (fun e : Gx.Meaning => e.size)).sum) := by
 simp only [startHouse, Gx.House.size, Gx.Draft.size, Gx.Grid.size, List.length_nil, List.map_nil, List.sum_nil]
 omega
theorem newHouse_size (N : Nat) (l : List Gx.Listed) (d : List Gx.Meaning) : (newHouse N l d).1.size ≤ (startHouse l d).size := by
 unfold newHouse
 split
 ·exact Nat.le_refl _
 ·exact Nat.zero_le _
theorem p_i_NewHouse {N : Nat} (hN : 67108864 < N) (l : List Gx.Listed) (d : List Gx.Meaning) (hx : CpHouse (startHouse l d)) : i_NewHouse N l d = some (newHouse N l d) := by
 unfold i_NewHouse newHouse
 have h1 := p_i_copyHouse hN hx
 have h2 := p_i_IsHouse hN hx
 unfold startHouse at h1 h2
 rw [h1, bnd_mk, h2, bnd_mk]
 unfold startHouse
 cases isHouse N ⟨l, d, ⟨⟨0, 0, []⟩, [], [], 0⟩, [], [], [], [], 0⟩ <;> rfl
theorem p_s_NewHouse {N : Nat} (hN : 67108864 < N) (l : List Gx.Listed) (d : List Gx.Meaning) (hx : CpHouse (startHouse l d)) : s_NewHouse N l d = some (newHouse N l d) := by
 unfold s_NewHouse newHouse
 have h1 := p_s_l33Copy hN hx
 have h2 := p_s_IsHouse hN hx
 unfold startHouse at h1 h2
 rw [h1, bnd_mk, h2, bnd_mk]
 unfold startHouse
 cases isHouse N ⟨l, d, ⟨⟨0, 0, []⟩, [], [], 0⟩, [], [], [], [], 0⟩ <;> rfl
def exW : List (List UInt8) := [[97, 99, 116], [97, 110, 116], [97, 114, 99], [97, 114, 101], [97, 114, 116], [97, 116, 101], [99, 97, 114], [99, 97, 116], [101, 97, 114], [101, 97, 116], [101, 114, 97], [110, 101, 116], [114, 97, 116], [115, 101, 97], [116, 97, 99], [116, 97, 110], [116, 97, 114], [116, 101, 97], [116, 101, 110]]
def exL : List Gx.Listed := exW.zipIdx.map fun p => ⟨p.1, 0, 1000, ((10 + p.2 : Nat) : Int)⟩
def exD : List Gx.Meaning := exW.zipIdx.map fun p => ⟨p.1, ((1 + p.2 / 3 : Nat) : Int)⟩
theorem ex_size : (startHouse exL exD).size ≤ 1048576 := by
 rw [startHouse_size]
 exact Nat.le_of_ble_eq_true rfl
theorem p_i_ExampleHouse {N : Nat} (hN : 67108864 < N) : i_ExampleHouse N = some (newHouse N exL exD) := by
 unfold i_ExampleHouse i_ExampleWords
 have h : loopN (i_ExampleHouse_L1 N exW) N ([], [], 0) = some (exL, exD) := by
  obtain ⟨M, rfl⟩ : ∃ M, N = M + 20 := ⟨N - 20, by omega⟩
  rfl
 rw [bnd_mk]
 unfold exW at h
 rw [h, bnd_mk, p_i_NewHouse hN exL exD (cp_house ex_size), bnd_mk]
theorem p_s_ExampleHouse {N : Nat} (hN : 67108864 < N) : s_ExampleHouse N = some (newHouse N exL exD) := by
 unfold s_ExampleHouse s_ExampleWords
 have h : loopN (s_ExampleHouse_L1 N exW) N ([], [], 0) = some (exL, exD) := by
  obtain ⟨M, rfl⟩ : ∃ M, N = M + 20 := ⟨N - 20, by omega⟩
  rfl
 rw [bnd_mk]
 unfold exW at h
 rw [h, bnd_mk, p_s_NewHouse hN exL exD (cp_house ex_size), bnd_mk]
theorem p_FnExactExampleHouse {N : Nat} (hN : 67108864 < N) : l_FnExactExampleHouse N = some true := by
 unfold l_FnExactExampleHouse
 have hs := ex_size
 have hs' := newHouse_size N exL exD
 obtain ⟨a', b', c', d', e', f', i', m', hm', hh⟩ := marks_house hN (newHouse N exL exD).1 (by omega)
 have hq := p_eqHouse hN (newHouse N exL exD).1 (newHouse N exL exD).1 (by omega)
 simp only [bnd_mk, p_i_ExampleHouse hN, p_s_ExampleHouse hN, hq, hm', hh, bne_self_eq_false, sel_false, decide_true, Bool.not_true, sel_neg (show ¬ ((m' : Int) < 0) by omega)]
end Lw
end Go.Proofs
