/- plain laws -/
import Derived.Test.YtniibgdokfnomaaGreatAvPhStepWord
namespace Go.Proofs
open Go Go.Av
set_option maxRecDepth 100000
set_option maxHeartbeats 40000000
set_option linter.unusedVariables false
set_option linter.unusedSimpArgs false
namespace Lw
theorem p_s_l1In (N : Nat) (n a b : Int) : s_l1In N n a b = some (decide (a ≤ n ∧ n ≤ b)) := by
 unfold s_l1In
 rw [sel_ite]
 split <;> simp <;> omega
theorem p_i_InRange (N : Nat) (n a b : Int) : i_InRange N n a b = some (decide (a ≤ n ∧ n ≤ b)) := by
 unfold i_InRange
 rw [sel_ite]
 split <;> simp <;> omega
/-- a lower-case letter -/
def isLet (c : UInt8) : Bool := decide (97 ≤ c.toNat ∧ c.toNat ≤ 122)
theorem p_i_isLetter (N : Nat) (c : UInt8) : i_isLetter N (c.toNat : Int) = some (isLet c) := by
 unfold i_isLetter isLet
 rw [sel_ite]
 split
 ·rw [Option.some.injEq, decide_eq_decide]; omega
 ·rw [Option.some.injEq, eq_comm, decide_eq_false_iff_not]; omega
def isWord (s : List UInt8) : Bool := decide (1 ≤ s.length ∧ s.length ≤ 8) && s.all isLet
theorem p_i_IsWord {N : Nat} (hN : 67108864 < N) (s : List UInt8) : i_IsWord N s = some (isWord s) := by
 unfold i_IsWord i_InRange isWord
 by_cases h : 1 ≤ s.length ∧ s.length ≤ 8
 ·rw [sel_pos (by omega), bnd_mk, decide_eq_true (p := ((s.length : Int) ≤ 8)) (by omega), Bool.not_true, sel_false, loop_all (N := N) (l := s) isLet (b := false) (fun i c hc hi => by
   unfold i_IsWord_L1
   rw [sel_pos (by omega), chk_pos (by omega), byteI_nat hc, p_i_isLetter, bnd_mk]
   cases isLet c <;> rfl) (by unfold i_IsWord_L1; rw [sel_neg (by omega)]) (by omega) (by omega), decide_eq_true h]
  cases s.all isLet <;> rfl
 ·rw [decide_eq_false h, Bool.false_and, sel_ite]
  split
  ·rw [bnd_mk, decide_eq_false (p := ((s.length : Int) ≤ 8)) (by omega)]; rfl
  ·rfl
theorem p_s_IsWord {N : Nat} (hN : 67108864 < N) (s : List UInt8) : s_IsWord N s = some (isWord s) := by
 unfold s_IsWord s_l1In isWord
 by_cases h : 1 ≤ s.length ∧ s.length ≤ 8
 ·rw [sel_pos (by omega), bnd_mk, decide_eq_true (p := ((s.length : Int) ≤ 8)) (by omega), Bool.not_true, sel_false, loop_all (N := N) (l := s) isLet (b := false) (fun i c hc hi => by
   unfold s_IsWord_L1
   rw [sel_pos (by omega), chk_pos (by omega), byteI_nat hc]
   unfold isLet
   by_cases h1 : 97 ≤ c.toNat
   ·rw [sel_neg (by omega), chk_pos (by omega)]
    by_cases h2 : c.toNat ≤ 122
    ·rw [sel_neg (by omega), if_pos (by simp [h1, h2])]
    ·rw [sel_pos (by omega), if_neg (by simp [h2])]
   ·rw [sel_pos (by omega), if_neg (by simp [h1])]) (by unfold s_IsWord_L1; rw [sel_neg (by omega)]) (by omega) (by omega), decide_eq_true h]
  cases s.all isLet <;> rfl
 ·rw [decide_eq_false h, Bool.false_and, sel_ite]
  split
  ·rw [bnd_mk, decide_eq_false (p := ((s.length : Int) ≤ 8)) (by omega)]; rfl
  ·rfl
def beforeW (a b : List UInt8) : Bool := if ((a.length : Int) != (b.length : Int)) = true then decide ((a.length : Int) < (b.length : Int)) else Op.bytesLess a b
theorem p_i_BeforeWord (N : Nat) (a b : List UInt8) : i_BeforeWord N a b = some (beforeW a b) := by
 unfold i_BeforeWord beforeW
 cases ((a.length : Int) != (b.length : Int)) <;> rfl
theorem p_s_BeforeWord (N : Nat) (a b : List UInt8) : s_BeforeWord N a b = some (beforeW a b) := p_i_BeforeWord N a b
def inR (n a b : Int) : Bool := decide (a ≤ n ∧ n ≤ b)
theorem p_i_inR (N : Nat) (n a b : Int) : i_InRange N n a b = some (inR n a b) := p_i_InRange N n a b
theorem p_s_inR (N : Nat) (n a b : Int) : s_l1In N n a b = some (inR n a b) := p_s_l1In N n a b
def okListed (l : List Gx.Listed) (i : Nat) (x : Gx.Listed) : Bool :=
 (decide (i = 0) || beforeW ((l[i - 1]?).map (·.mWord) |>.getD []) x.mWord) && (isWord x.mWord && (inR x.mFrom 0 x.mUntil && (!decide (x.mUntil > 1000) && inR x.mScore 0 99)))
def isList (l : List Gx.Listed) : Bool := decide (l.length ≤ 40) && allI (okListed l) l 0
theorem prev_get {α : Type} {l : List α} {i : Nat} {x : α} (h : l[i]? = some x) (h0 : i ≠ 0) : ∃ y, l[i - 1]? = some y := ⟨l[i - 1]'(by have := (List.getElem?_eq_some_iff.1 h).1; omega), List.getElem?_eq_getElem _⟩
theorem w64_pred {i : Nat} (h0 : i ≠ 0) (h : i ≤ 4611686018427387904) : w64 ((i : Int) - 1) = ((i - 1 : Nat) : Int) := by rw [w64_in (by omega) (by omega)]; omega
theorem okListed_zero {l : List Gx.Listed} {i : Nat} {x : Gx.Listed} (h0 : i = 0) : okListed l i x = (isWord x.mWord && (inR x.mFrom 0 x.mUntil && (!decide (x.mUntil > 1000) && inR x.mScore 0 99))) := by unfold okListed; rw [decide_eq_true h0]; rfl
theorem okListed_pos {l : List Gx.Listed} {i : Nat} {x y : Gx.Listed} (h0 : i ≠ 0) (hy : l[i - 1]? = some y) : okListed l i x = (beforeW y.mWord x.mWord && (isWord x.mWord && (inR x.mFrom 0 x.mUntil && (!decide (x.mUntil > 1000) && inR x.mScore 0 99)))) := by unfold okListed; rw [decide_eq_false h0, hy]; rfl
theorem p_i_IsList {N : Nat} (hN : 67108864 < N) (l : List Gx.Listed) : i_IsList N l = some (isList l) := by
 unfold i_IsList isList
 by_cases h : l.length ≤ 40
 ·rw [sel_neg (by omega), decide_eq_true h, loop_allI (N := N) (γ := Unit) (l := l) (okListed l) (b := false) (fun i x hx hi => by
   unfold i_IsList_L1
   rw [sel_pos (by omega), getI_nat hx, bnd_mk]
   by_cases h0 : i = 0
   ·rw [sel_neg (by omega), okListed_zero h0]
    simp only [p_i_IsWord hN, p_i_inR, bnd_mk]
    cases isWord x.mWord <;> cases inR x.mFrom 0 x.mUntil <;> cases decide (x.mUntil > 1000) <;> cases inR x.mScore 0 99 <;> rfl
   ·obtain ⟨y, hy⟩ := prev_get hx h0
    rw [sel_pos (by omega), okListed_pos h0 hy, w64_pred h0 (by omega), getI_nat hy]
    simp only [p_i_IsWord hN, p_i_inR, p_i_BeforeWord, bnd_mk]
    cases beforeW y.mWord x.mWord <;> cases isWord x.mWord <;> cases inR x.mFrom 0 x.mUntil <;> cases decide (x.mUntil > 1000) <;> cases inR x.mScore 0 99 <;> rfl) (by unfold i_IsList_L1; rw [sel_neg (by omega)]) (by omega) (by omega)]
  cases allI (okListed l) l 0 <;> rfl
 ·rw [sel_pos (by omega), decide_eq_false h]; rfl
theorem p_s_IsList {N : Nat} (hN : 67108864 < N) (l : List Gx.Listed) (hl : l.length ≤ 4194304) : s_IsList N l = some (isList l) := by
 unfold s_IsList isList
 rw [loop_allI (N := N) (γ := Unit) (l := l) (okListed l) (b := false) (fun i x hx hi => by
   unfold s_IsList_L1
   rw [sel_pos (by omega), getI_nat hx, bnd_mk]
   have e : inR x.mFrom 0 x.mUntil = (!decide (x.mFrom < 0) && !decide (x.mFrom > x.mUntil)) := by
    unfold inR
    by_cases h1 : x.mFrom < 0 <;> by_cases h2 : x.mFrom > x.mUntil <;> simp [h1, h2] <;> omega
   by_cases h0 : i = 0
   ·rw [okListed_zero h0, e, decide_eq_false (p := ((i : Int) > 0)) (by omega)]
    simp only [p_s_IsWord hN, p_s_inR, bnd_mk]
    cases isWord x.mWord <;> cases decide (x.mFrom < 0) <;> cases decide (x.mFrom > x.mUntil) <;> cases decide (x.mUntil > 1000) <;> cases inR x.mScore 0 99 <;> rfl
   ·obtain ⟨y, hy⟩ := prev_get hx h0
    rw [okListed_pos h0 hy, e, decide_eq_true (p := ((i : Int) > 0)) (by omega), w64_pred h0 (by omega), getI_nat hy]
    simp only [p_s_IsWord hN, p_s_inR, p_s_BeforeWord, bnd_mk]
    cases beforeW y.mWord x.mWord <;> cases isWord x.mWord <;> cases decide (x.mFrom < 0) <;> cases decide (x.mFrom > x.mUntil) <;> cases decide (x.mUntil > 1000) <;> cases inR x.mScore 0 99 <;> rfl) (by unfold s_IsList_L1; rw [sel_neg (by omega)]) (by omega) (by omega)]
 by_cases h : l.length ≤ 40
 ·rw [decide_eq_true h, decide_eq_true (p := ((l.length : Int) ≤ 40)) (by omega)]
  cases allI (okListed l) l 0 <;> rfl
 ·rw [decide_eq_false h, decide_eq_false (p := ((l.length : Int) ≤ 40)) (by omega)]
  cases allI (okListed l) l 0 <;> rfl
/-- the first, or out -/
def firstV {α β : Type} (f : Nat → α → Option β) : List α → Nat → β → β
 | [], _, b => b
 | x :: r, i, b => match f i x with | some y => y | none => firstV f r (i + 1) b
theorem loop_first {α β : Type} {l : List α} {step : Int → Option (Sum Int β)} (f : Nat → α → Option β) {b : β} {N : Nat}
  (hs : ∀ i x, l[i]? = some x → i < l.length → step (i : Int) = some (match f i x with | some y => .inr y | none => .inl (w64 ((i : Int) + 1)))) (he : step (l.length : Int) = some (.inr b))
  (hl : l.length ≤ 4611686018427387904) (hN : l.length < N) : loopN step N 0 = some (firstV f l 0 b) :=
 loopN_list (N := N) (step := step) (fun i (a : Nat) => (i : Int)) l (fun r a => firstV f r a b) (fun i a => a = i) (a := 0) rfl
  (fun a ha => by rw [he]; rfl)
  (fun i a x r ha hx hr hi => by
   subst ha
   rw [hs a x hx hi]
   simp only [firstV]
   cases f a x with
   | some y => right; rfl
   | none => left; rw [w64_nat (by omega)]; exact ⟨a + 1, rfl, rfl, rfl⟩) hN
def findL (l : List Gx.Listed) (w : List UInt8) : Int := firstV (fun i (x : Gx.Listed) => if (x.mWord == w) = true then some (i : Int) else none) l 0 (-1)
theorem p_s_l5Find {N : Nat} (hN : 67108864 < N) (l : List Gx.Listed) (hl : l.length ≤ 1048576) (w : List UInt8) : s_l5Find N l w = some (findL l w) := by
 unfold s_l5Find
 rw [loop_first (N := N) (l := l) (fun i (x : Gx.Listed) => if (x.mWord == w) = true then some (Cut.rt (i : Int)) else none) (b := Cut.nx ()) (fun i x hx hi => by
  unfold s_l5Find_L1
  rw [sel_pos (by omega), getI_nat hx, bnd_mk]
  cases x.mWord == w <;> rfl) (by unfold s_l5Find_L1; rw [sel_neg (by omega)]) (by omega) (by omega)]
 have key : ∀ (r : List Gx.Listed) (i : Nat), cutb (some (firstV (fun i (x : Gx.Listed) => if (x.mWord == w) = true then some (Cut.rt (i : Int)) else none) r i (Cut.nx ()))) (fun _ => some (-1)) = some (firstV (fun i (x : Gx.Listed) => if (x.mWord == w) = true then some (i : Int) else none) r i (-1)) := by
  intro r
  induction r with
  | nil => intro i; rfl
  | cons x r ih =>
   intro i
   simp only [firstV]
   cases x.mWord == w with
   | true => rfl
   | false => exact ih (i + 1)
 exact key l 0
structure CpIss (x : Gx.Issue) : Prop where
 clues : x.mPuzzle.mClues.length ≤ 1048576
 play : ∀ c ∈ x.mPuzzle.mClues, c.mPlay.length ≤ 1048576
 seals : x.mPuzzle.mSeals.length ≤ 1048576
 cells : x.mPuzzle.mGrid.mCells.length ≤ 1048576
theorem cp_clue {c : Gx.Clue} : c.mPlay.length ≤ c.size := by
 unfold Gx.Clue.size
 omega
theorem cp_iss {x : Gx.Issue} (hs : x.size ≤ 1048576) : CpIss x := by
 unfold Gx.Issue.size Gx.Puzzle.size Gx.Grid.size at hs
 refine ⟨by omega, fun c hc => ?_, by omega, by omega⟩
 have h2 : c.size ≤ (x.mPuzzle.mClues.map (fun e : Gx.Clue => e.size)).sum := mem_sum (fun e : Gx.Clue => e.size) hc
 have h3 := @cp_clue c
 omega
theorem cp_issues {h : Gx.House} (hs : h.size ≤ 1048576) : h.mIssues.length ≤ 1048576 ∧ ∀ x ∈ h.mIssues, CpIss x := by
 unfold Gx.House.size at hs
 refine ⟨by omega, fun x hx => cp_iss ?_⟩
 have h2 : x.size ≤ (h.mIssues.map (fun e : Gx.Issue => e.size)).sum := mem_sum (fun e : Gx.Issue => e.size) hx
 omega
theorem p_i_copyClues {N : Nat} (hN : 67108864 < N) (l : List Gx.Clue) (hl : l.length ≤ 1048576) (hp : ∀ c ∈ l, c.mPlay.length ≤ 1048576) : i_copyClues N l = some l := by
 unfold i_copyClues
 rw [loop_map (N := N) (l := l) (fun x => x) (fi := id) (fun i x a hx hi ha => by
  have hc := hp x (List.mem_of_getElem? hx)
  unfold i_copyClues_L1 i_copyClue g_slices_Clone_Simpl_Step_impl_Step
  simp only
  rw [sel_pos (by omega), getI_nat hx, bnd_mk, chk_pos (by omega), bnd_mk, bnd_mk, chk_pos (by simp; omega)]) (fun a => by unfold i_copyClues_L1; rw [sel_neg (by simp)]; rfl) (by omega) (by omega)]
 simp
theorem p_s_l21Clues {N : Nat} (hN : 67108864 < N) (l : List Gx.Clue) (hl : l.length ≤ 1048576) (hp : ∀ c ∈ l, c.mPlay.length ≤ 1048576) : s_l21Clues N l = some l := by
 unfold s_l21Clues
 rw [loop_map (N := N) (l := l) (fun x => x) (fi := id) (fun i x a hx hi ha => by
  have hc := hp x (List.mem_of_getElem? hx)
  unfold s_l21Clues_L1 s_l18Copy
  simp only
  rw [sel_pos (by omega), getI_nat hx, bnd_mk, chk_pos (by simp; omega), bnd_mk, chk_pos (by simp; omega)]) (fun a => by unfold s_l21Clues_L1; rw [sel_neg (by simp)]; rfl) (by omega) (by omega)]
 simp
theorem p_i_copyIssue {N : Nat} (hN : 67108864 < N) {x : Gx.Issue} (hx : CpIss x) : i_copyIssue N x = some x := by
 unfold i_copyIssue i_copyPuzzle g_slices_Clone_Sint_int
 rw [p_i_copyClues hN _ hx.clues hx.play, bnd_mk, chk_pos (by have := hx.seals; omega)]
 rfl
theorem p_s_l30Copy {N : Nat} (hN : 67108864 < N) {x : Gx.Issue} (hx : CpIss x) : s_l30Copy N x = some x := by
 unfold s_l30Copy s_l21Copy
 rw [p_s_l21Clues hN _ hx.clues hx.play, bnd_mk, chk_pos (by have := hx.seals; simp; omega)]
 rfl
def nbr (C n i j : Nat) : Prop := (0 < i % C ∧ j + 1 = i) ∨ (i % C + 1 < C ∧ j = i + 1) ∨ (C ≤ i ∧ j + C = i) ∨ (i + C < n ∧ j = i + C)
inductive Conn (C n : Nat) (w : Nat → Bool) (a : Nat) : Nat → Prop
 | refl : Conn C n w a a
 | step {b c : Nat} : Conn C n w a b → nbr C n b c → w c = true → Conn C n w a c
theorem Conn.trans {C n : Nat} {w : Nat → Bool} {a b c : Nat} (h1 : Conn C n w a b) (h2 : Conn C n w b c) : Conn C n w a c := by
 induction h2 with
 | refl => exact h1
 | step _ hn hw ih => exact .step ih hn hw
theorem Conn.cons {C n : Nat} {w : Nat → Bool} {a b c : Nat} (hn : nbr C n a b) (hw : w b = true) (h2 : Conn C n w b c) : Conn C n w a c := Conn.trans (.step .refl hn hw) h2
theorem less_same : ∀ (w : List UInt8), Op.bytesLess w w = false
 | [] => rfl
 | c :: r => by unfold Op.bytesLess; rw [less_same r]; simp
theorem before_same (w : List UInt8) : beforeW w w = false := by unfold beforeW; rw [if_neg (by simp)]; exact less_same w
/-- what holds between an entry and the one before it -/
def prevB {α : Type} (q : α → α → Bool) (l : List α) (i : Nat) (x : α) : Bool := match i with | 0 => true | k + 1 => match l[k]? with | some y => q y x | none => true
theorem prevB_zero {α : Type} {q : α → α → Bool} {l : List α} {i : Nat} {x : α} (h : i = 0) : prevB q l i x = true := by subst h; rfl
theorem prevB_pos {α : Type} {q : α → α → Bool} {l : List α} {i : Nat} {x y : α} (h : i ≠ 0) (hy : l[i - 1]? = some y) : prevB q l i x = q y x := by
 cases i with
 | zero => exact absurd rfl h
 | succ k => simp only [prevB]; rw [show k + 1 - 1 = k from rfl] at hy; rw [hy]
def beforeM (a b : Gx.Meaning) : Bool := if (a.mWord != b.mWord) = true then beforeW a.mWord b.mWord else decide (a.mSense < b.mSense)
theorem p_i_beforeMeaning (N : Nat) (a b : Gx.Meaning) : i_beforeMeaning N a b = some (beforeM a b) := by
 unfold i_beforeMeaning beforeM
 rw [p_i_BeforeWord, bnd_mk, sel_eq]; split <;> rfl
theorem p_s_l17Before (N : Nat) (a b : Gx.Meaning) : s_l17Before N a b = some (beforeM a b) := by
 unfold s_l17Before beforeM
 rw [p_s_BeforeWord, bnd_mk]
 by_cases h : a.mWord = b.mWord
 ·rw [h, before_same, if_neg (by simp), beq_self_eq_true]; rfl
 ·rw [if_pos (by simpa using h), beq_eq_false_iff_ne.2 h]; cases beforeW a.mWord b.mWord <;> rfl
def okM (l : List Gx.Meaning) (i : Nat) (x : Gx.Meaning) : Bool := prevB beforeM l i x && (isWord x.mWord && inR x.mSense 1 99)
def isDict (l : List Gx.Meaning) : Bool := decide (l.length ≤ 40) && allI (okM l) l 0
theorem p_i_IsDictionary {N : Nat} (hN : 67108864 < N) (l : List Gx.Meaning) : i_IsDictionary N l = some (isDict l) := by
 unfold i_IsDictionary isDict
 by_cases h : l.length ≤ 40
 ·rw [sel_neg (by omega), decide_eq_true h, loop_allI (N := N) (γ := Unit) (l := l) (okM l) (b := false) (fun i x hx hi => by
   unfold i_IsDictionary_L1 okM
   rw [sel_pos (by omega), getI_nat hx, bnd_mk]
   simp only [p_i_IsWord hN, p_i_inR, bnd_mk]
   by_cases h0 : i = 0
   ·rw [sel_neg (by omega), prevB_zero h0]
    cases isWord x.mWord <;> cases inR x.mSense 1 99 <;> rfl
   ·obtain ⟨y, hy⟩ := prev_get hx h0
    rw [sel_pos (by omega), prevB_pos h0 hy, w64_pred h0 (by omega), getI_nat hy]
    simp only [p_i_beforeMeaning, bnd_mk]
    cases beforeM y x <;> cases isWord x.mWord <;> cases inR x.mSense 1 99 <;> rfl) (by unfold i_IsDictionary_L1; rw [sel_neg (by omega)]) (by omega) (by omega)]
  cases allI (okM l) l 0 <;> rfl
 ·rw [sel_pos (by omega), decide_eq_false h]; rfl
theorem p_s_IsDictionary {N : Nat} (hN : 67108864 < N) (l : List Gx.Meaning) (hl : l.length ≤ 4194304) : s_IsDictionary N l = some (isDict l) := by
 unfold s_IsDictionary isDict
 rw [loop_allI (N := N) (γ := Unit) (l := l) (okM l) (b := false) (fun i x hx hi => by
   unfold s_IsDictionary_L1 okM
   rw [sel_pos (by omega), getI_nat hx]
   simp only [p_s_IsWord hN, p_s_inR, bnd_mk]
   by_cases h0 : i = 0
   ·rw [sel_neg (by omega), prevB_zero h0]
    cases isWord x.mWord <;> cases inR x.mSense 1 99 <;> rfl
   ·obtain ⟨y, hy⟩ := prev_get hx h0
    rw [sel_pos (by omega), prevB_pos h0 hy, w64_pred h0 (by omega), getI_nat hy]
    simp only [p_s_l17Before, bnd_mk]
    cases beforeM y x <;> cases isWord x.mWord <;> cases inR x.mSense 1 99 <;> rfl) (by unfold s_IsDictionary_L1; rw [sel_neg (by omega)]) (by omega) (by omega)]
 have e : decide ((l.length : Int) ≤ 40) = decide (l.length ≤ 40) := by rw [Bool.eq_iff_iff]; simp only [decide_eq_true_eq]; omega
 rw [e]
 cases allI (okM l) l 0 <;> cases decide (l.length ≤ 40) <;> rfl
structure CpDraft (x : Gx.Draft) : Prop where
 clues : x.mClues.length ≤ 1048576
 play : ∀ c ∈ x.mClues, c.mPlay.length ≤ 1048576
 cells : x.mGrid.mCells.length ≤ 1048576
structure CpHouse (h : Gx.House) : Prop where
 list : h.mList.length ≤ 1048576
 dict : h.mDict.length ≤ 1048576
 desk : CpDraft h.mDesk
 issl : h.mIssues.length ≤ 1048576
 iss : ∀ x ∈ h.mIssues, CpIss x
 uses : h.mUses.length ≤ 1048576
 corr : h.mCorrections.length ≤ 1048576
 corrp : ∀ c ∈ h.mCorrections, c.mClue.mPlay.length ≤ 1048576
 ents : h.mEntries.length ≤ 1048576
theorem cp_house {h : Gx.House} (hs : h.size ≤ 1048576) : CpHouse h := by
 obtain ⟨h1, h2⟩ := cp_issues hs
 unfold Gx.House.size Gx.Draft.size Gx.Grid.size at hs
 refine ⟨by omega, by omega, ⟨by omega, fun c hc => ?_, by omega⟩, h1, h2, by omega, by omega, fun c hc => ?_, by omega⟩
 ·have h3 : c.size ≤ (h.mDesk.mClues.map (fun e : Gx.Clue => e.size)).sum := mem_sum (fun e : Gx.Clue => e.size) hc
  have := @cp_clue c
  omega
 ·have h3 : c.size ≤ (h.mCorrections.map (fun e : Gx.Correction => e.size)).sum := mem_sum (fun e : Gx.Correction => e.size) hc
  have h4 := @cp_clue c.mClue
  have h5 : c.mClue.size ≤ c.size := by unfold Gx.Correction.size; omega
  omega
theorem p_i_copyDraft {N : Nat} (hN : 67108864 < N) {x : Gx.Draft} (hx : CpDraft x) : i_copyDraft N x = some x := by
 unfold i_copyDraft
 rw [p_i_copyClues hN _ hx.clues hx.play, bnd_mk]
theorem p_s_l27Copy {N : Nat} (hN : 67108864 < N) {x : Gx.Draft} (hx : CpDraft x) : s_l27Copy N x = some x := by
 unfold s_l27Copy
 rw [p_s_l21Clues hN _ hx.clues hx.play, bnd_mk]
theorem p_i_copyCorrections {N : Nat} (hN : 67108864 < N) (l : List Gx.Correction) (hl : l.length ≤ 1048576) (hp : ∀ c ∈ l, c.mClue.mPlay.length ≤ 1048576) : i_copyCorrections N l = some l := by
 unfold i_copyCorrections
 rw [loop_map (N := N) (l := l) (fun x => x) (fi := id) (fun i x a hx hi ha => by
  have hc := hp x (List.mem_of_getElem? hx)
  unfold i_copyCorrections_L1 i_copyClue g_slices_Clone_Simpl_Step_impl_Step
  simp only
  rw [sel_pos (by omega), getI_nat hx, bnd_mk, chk_pos (by omega), bnd_mk, bnd_mk, chk_pos (by simp; omega)]) (fun a => by unfold i_copyCorrections_L1; rw [sel_neg (by simp)]; rfl) (by omega) (by omega)]
 simp
theorem p_s_l31Copy {N : Nat} (hN : 67108864 < N) (l : List Gx.Correction) (hl : l.length ≤ 1048576) (hp : ∀ c ∈ l, c.mClue.mPlay.length ≤ 1048576) : s_l31Copy N l = some l := by
 unfold s_l31Copy
 rw [loop_map (N := N) (l := l) (fun x => x) (fi := id) (fun i x a hx hi ha => by
  have hc := hp x (List.mem_of_getElem? hx)
  unfold s_l31Copy_L1 s_l18Copy
  simp only
  rw [sel_pos (by omega), getI_nat hx, bnd_mk, chk_pos (by simp; omega), bnd_mk, chk_pos (by simp; omega)]) (fun a => by unfold s_l31Copy_L1; rw [sel_neg (by simp)]; rfl) (by omega) (by omega)]
 simp
theorem p_i_copyHouse {N : Nat} (hN : 67108864 < N) {h : Gx.House} (hx : CpHouse h) : i_copyHouse N h = some h := by
 have l1 := hx.list
 have l2 := hx.dict
 have l3 := hx.uses
 have l4 := hx.ents
 have l5 := hx.issl
 unfold i_copyHouse g_slices_Clone_Simpl_Listed_impl_Listed g_slices_Clone_Simpl_Meaning_impl_Meaning g_slices_Clone_Simpl_Used_impl_Used g_slices_Clone_Simpl_Entry_impl_Entry
 rw [chk_pos (by omega), bnd_mk, chk_pos (by omega), bnd_mk, p_i_copyDraft hN hx.desk, bnd_mk,
  loop_map (N := N) (l := h.mIssues) (fun x => x) (fi := id) (fun i x a hx' hi ha => by
   unfold i_copyHouse_L1
   simp only
   rw [sel_pos (by omega), getI_nat hx', bnd_mk, p_i_copyIssue hN (hx.iss x (List.mem_of_getElem? hx')), bnd_mk, chk_pos (by simp; omega)]) (fun a => by unfold i_copyHouse_L1; rw [sel_neg (by simp)]; rfl) (by omega) (by omega),
  bnd_mk, chk_pos (by omega), bnd_mk, p_i_copyCorrections hN _ hx.corr hx.corrp, bnd_mk, chk_pos (by omega), bnd_mk, List.map_id']
 rfl
theorem p_s_l33Copy {N : Nat} (hN : 67108864 < N) {h : Gx.House} (hx : CpHouse h) : s_l33Copy N h = some h := by
 have l1 := hx.list
 have l2 := hx.dict
 have l3 := hx.uses
 have l4 := hx.ents
 have l5 := hx.issl
 unfold s_l33Copy
 rw [chk_pos (by simp; omega), chk_pos (by simp; omega), p_s_l27Copy hN hx.desk, bnd_mk, chk_pos (by simp; omega), p_s_l31Copy hN _ hx.corr hx.corrp, bnd_mk, chk_pos (by simp; omega),
  loop_map (N := N) (l := h.mIssues) (fun x => x) (fi := id) (fun i x a hx' hi ha => by
   unfold s_l33Copy_L1
   simp only
   rw [sel_pos (by omega), getI_nat hx', bnd_mk, p_s_l30Copy hN (hx.iss x (List.mem_of_getElem? hx')), bnd_mk, chk_pos (by simp; omega)]) (fun a => by unfold s_l33Copy_L1; rw [sel_neg (by simp)]; rfl) (by omega) (by omega),
  bnd_mk, List.map_id']
 rfl
theorem mark_house {N : Nat} (hN : 67108864 < N) (g : Gx.House) (hs : g.size ≤ 4194303) : ∃ a b c d e f i, ∃ n : Nat, l_markHouse N g 1 = some (a, b, c, d, e, f, i, (n : Int)) := by
 have hc := cntHouse_le g 1
 exact ⟨_, _, _, _, _, _, _, _, p_markHouse hN g 1 (by omega)⟩
theorem marks_house {N : Nat} (hN : 67108864 < N) (g : Gx.House) (hs : g.size ≤ 4194303) : ∃ a b c d e f i, ∃ n : Nat, l_markHouse N g 1 = some (a, b, c, d, e, f, i, (n : Int)) ∧
  l_heldHouse N ⟨a, b, ⟨⟨g.mDesk.mGrid.mRows, g.mDesk.mGrid.mCols, g.mDesk.mGrid.mCells⟩, g.mDesk.mFill, c, g.mDesk.mVersion⟩, d, e, f, i, g.mNow⟩ 1 = some (n : Int) := by
 have hc := cntHouse_le g 1
 have hm := p_markHouse hN g 1 (by omega)
 exact ⟨_, _, _, _, _, _, _, _, hm, p_heldHouse hN g _ 1 rfl rfl rfl rfl rfl rfl rfl (by omega)⟩
theorem szF_ok {a : Nat} {left : Int} (h : ¬ szF a left < 0) : szF a left = left - a ∧ (a : Int) ≤ left := by
 unfold szF at h ⊢
 split
 ·rename_i h1; rw [if_pos h1] at h; omega
 ·rename_i h1; rw [if_neg h1] at h; omega
theorem first_loop {α : Type} {l : List α} {q : α → Bool} {step : Int → Option (Sum Int Int)} (hs : ∀ i x, l[i]? = some x → i < l.length → step (i : Int) = if q x = true then some (.inl (w64 ((i : Int) + 1))) else some (.inr (i : Int)))
  (he : step (l.length : Int) = some (.inr (l.length : Int))) (hl : l.length ≤ 4611686018427387904) : ∀ (m i M : Nat), i + m = l.length → m < M → loopN step M (i : Int) = some ((i + ((l.drop i).takeWhile q).length : Nat) : Int)
 | 0, i, 0, _, h => by omega
 | 0, i, M + 1, hi, _ => by
  have e : i = l.length := by omega
  subst e
  simp only [loopN, he, List.drop_length]
  rfl
 | m + 1, i, 0, _, h => by omega
 | m + 1, i, M + 1, hi, hM => by
  have hx : l[i]? = some l[i] := List.getElem?_eq_getElem (by omega)
  have hd : l.drop i = l[i] :: l.drop (i + 1) := List.drop_eq_getElem_cons (by omega)
  have h := hs i l[i] hx (by omega)
  rw [hd, List.takeWhile_cons]
  by_cases hq : q l[i] = true
  ·rw [if_pos hq] at h
   rw [if_pos hq]
   simp only [loopN, h]
   rw [w64_nat (by omega), first_loop hs he hl m (i + 1) M (by omega) (by omega), List.length_cons]
   congr 2; omega
  ·rw [if_neg hq] at h
   rw [if_neg hq]
   simp only [loopN, h]
   rfl
theorem takeWhile_le {α : Type} (q : α → Bool) : ∀ l : List α, (l.takeWhile q).length ≤ l.length
 | [] => Nat.le_refl _
 | x :: l => by
  rw [List.takeWhile_cons]
  split
  ·have := takeWhile_le q l; simp only [List.length_cons]; omega
  ·simp
def putAt {α : Type} (q : α → Bool) (x : α) (l : List α) : List α := (l.take (l.takeWhile q).length ++ [x]) ++ l.drop (l.takeWhile q).length
theorem putAt_len {α : Type} (q : α → Bool) (x : α) (l : List α) : (putAt q x l).length = l.length + 1 := by
 have := takeWhile_le q l
 unfold putAt
 simp only [List.length_append, List.length_take, List.length_drop, List.length_singleton]
 omega
theorem putAt_sum {α : Type} (q : α → Bool) (x : α) (l : List α) (f : α → Nat) : ((putAt q x l).map f).sum = (l.map f).sum + f x := by
 have h : (l.map f).sum = ((l.take (l.takeWhile q).length).map f).sum + ((l.drop (l.takeWhile q).length).map f).sum := by
  conv => lhs; rw [← List.take_append_drop (l.takeWhile q).length l]
  rw [List.map_append, List.sum_append]
 unfold putAt
 rw [List.map_append, List.map_append, List.sum_append, List.sum_append, h]
 simp only [List.map_cons, List.map_nil, List.sum_cons, List.sum_nil]
 omega
theorem sub_zero {α : Type} (l : List α) (k : Nat) : sub l 0 (k : Int) = l.take k := by unfold sub; simp
theorem sub_end {α : Type} (l : List α) (k : Nat) : sub l (k : Int) (l.length : Int) = l.drop k := by
 unfold sub
 rw [Int.toNat_natCast, List.take_of_length_le (by rw [List.length_drop]; omega)]
def addW (l : List Gx.Listed) (x : Gx.Listed) : List Gx.Listed × Bool :=
 if findL l x.mWord ≥ 0 then (l, false) else if isList (putAt (fun y => beforeW y.mWord x.mWord) x l) = true then (putAt (fun y => beforeW y.mWord x.mWord) x l, true) else (l, false)
theorem p_i_listedAt {N : Nat} (hN : 67108864 < N) (l : List Gx.Listed) (hl : l.length ≤ 1048576) (w : List UInt8) : i_listedAt N l w = some (findL l w) := by
 have h : g_slices_IndexFunc_Simpl_Listed_impl_Listed N l (fun a0 => i_listedAt_1 N a0 w) = s_l5Find N l w := rfl
 unfold i_listedAt
 rw [h, p_s_l5Find hN l hl w, bnd_mk]
theorem p_i_AddWord {N : Nat} (hN : 67108864 < N) (l : List Gx.Listed) (hl : l.length ≤ 1048576) (x : Gx.Listed) : i_AddWord N l x = some (addW l x) := by
 have hk := takeWhile_le (fun y : Gx.Listed => beforeW y.mWord x.mWord) l
 unfold i_AddWord addW g_slices_Clone_Simpl_Listed_impl_Listed
 rw [p_i_listedAt hN l hl, bnd_mk, sel_ite, chk_pos (by omega)]
 simp only [bnd_mk]
 have := first_loop (l := l) (q := fun y : Gx.Listed => beforeW y.mWord x.mWord) (step := i_AddWord_L1 N l x) (fun i y hy hi => by
  unfold i_AddWord_L1
  rw [sel_pos (by omega), getI_nat hy, bnd_mk, p_i_BeforeWord, bnd_mk]
  cases beforeW y.mWord x.mWord <;> rfl) (by unfold i_AddWord_L1; rw [sel_neg (by omega)]) (by omega) l.length 0 N (by omega) (by omega)
 rw [show ((0 : Nat) : Int) = 0 from rfl] at this
 rw [this, bnd_mk, List.drop_zero, Nat.zero_add]
 unfold g_slices_Insert_Simpl_Listed_impl_Listed
 rw [chk_pos ⟨by omega, by omega, by omega, rfl⟩, bnd_mk, Int.toNat_natCast, p_i_IsList hN, bnd_mk]
 split
 ·rfl
 ·show sel (!isList (putAt _ x l)) _ _ = _
  cases isList (putAt (fun y => beforeW y.mWord x.mWord) x l) <;> rfl
theorem p_s_AddWord {N : Nat} (hN : 67108864 < N) (l : List Gx.Listed) (hl : l.length ≤ 1048576) (x : Gx.Listed) : s_AddWord N l x = some (addW l x) := by
 have hk := takeWhile_le (fun y : Gx.Listed => beforeW y.mWord x.mWord) l
 have hp := putAt_len (fun y : Gx.Listed => beforeW y.mWord x.mWord) x l
 unfold s_AddWord addW
 have := first_loop (l := l) (q := fun y : Gx.Listed => beforeW y.mWord x.mWord) (step := s_AddWord_L1 N l x) (fun i y hy hi => by
  unfold s_AddWord_L1
  rw [sel_pos (by omega), getI_nat hy, bnd_mk, p_s_BeforeWord, bnd_mk]
  cases beforeW y.mWord x.mWord <;> rfl) (by unfold s_AddWord_L1; rw [sel_neg (by omega)]) (by omega) l.length 0 N (by omega) (by omega)
 rw [show ((0 : Nat) : Int) = 0 from rfl] at this
 rw [this, bnd_mk, List.drop_zero, Nat.zero_add, sub_zero, sub_end, chk_pos ⟨by omega, by omega, by omega⟩, chk_pos (by rw [List.length_take]; simp only [List.length_nil]; omega), chk_pos (by rw [List.length_take]; simp only [List.length_singleton]; omega), chk_pos ⟨by omega, by omega, by omega⟩,
  chk_pos (by rw [List.length_append, List.length_take, List.length_drop]; simp only [List.length_singleton]; omega)]
 show bnd (bnd (s_l5Find N l x.mWord) fun x4 => sel (decide (x4 ≥ 0)) (some true) (bnd (s_IsList N (putAt (fun y => beforeW y.mWord x.mWord) x l)) fun x5 => some !x5)) _ = _
 rw [p_s_l5Find hN l hl, bnd_mk, p_s_IsList hN _ (by omega), bnd_mk, sel_ite, chk_pos (by simp only [List.length_nil]; omega)]
 split
 ·rfl
 ·rw [bnd_mk]
  show sel (!isList (putAt _ x l)) _ _ = _
  cases isList (putAt (fun y => beforeW y.mWord x.mWord) x l) <;> rfl
theorem index_loop {α : Type} {l : List α} {q : α → Bool} {step : Int → Option (Sum Int (Cut Unit Int))} {N : Nat} (hs : ∀ i x, l[i]? = some x → i < l.length → step (i : Int) = if q x = true then some (.inr (.rt (i : Int))) else some (.inl (w64 ((i : Int) + 1))))
  (he : step (l.length : Int) = some (.inr (.nx ()))) (hl : l.length ≤ 4611686018427387904) : ∀ (m i M : Nat), i + m = l.length → m < M → ∃ r, loopN step M (i : Int) = some r ∧ ((∃ j : Nat, r = .rt (j : Int) ∧ (l.drop i).any q = true) ∨ (r = .nx () ∧ (l.drop i).any q = false))
 | 0, i, 0, _, h => by omega
 | 0, i, M + 1, hi, _ => by
  have e : i = l.length := by omega
  subst e
  simp only [loopN, he, List.drop_length]
  exact ⟨_, rfl, .inr ⟨rfl, rfl⟩⟩
 | m + 1, i, 0, _, h => by omega
 | m + 1, i, M + 1, hi, hM => by
  have hx : l[i]? = some l[i] := List.getElem?_eq_getElem (by omega)
  have hd : l.drop i = l[i] :: l.drop (i + 1) := List.drop_eq_getElem_cons (by omega)
  have h := hs i l[i] hx (by omega)
  rw [hd, List.any_cons]
  by_cases hq : q l[i] = true
  ·rw [if_pos hq] at h
   simp only [loopN, h, hq, Bool.true_or]
   exact ⟨_, rfl, .inl ⟨i, rfl, by simp⟩⟩
  ·rw [if_neg hq] at h
   have hq' : q l[i] = false := by simpa using hq
   simp only [loopN, h, hq', Bool.false_or]
   rw [w64_nat (by omega)]
   exact index_loop (N := N) hs he hl m (i + 1) M (by omega) (by omega)
def sameM (m y : Gx.Meaning) : Bool := m.mWord == y.mWord && m.mSense == y.mSense
def addM (l : List Gx.Meaning) (x : Gx.Meaning) : List Gx.Meaning × Bool :=
 if l.any (sameM x) = true then (l, false) else if isDict (putAt (fun y => beforeM y x) x l) = true then (putAt (fun y => beforeM y x) x l, true) else (l, false)
theorem p_g_ContainsM {N : Nat} (hN : 67108864 < N) (l : List Gx.Meaning) (hl : l.length ≤ 1048576) (x : Gx.Meaning) : g_slices_Contains_Simpl_Meaning_impl_Meaning N l x = some (l.any (sameM x)) := by
 unfold g_slices_Contains_Simpl_Meaning_impl_Meaning g_slices_Index_Simpl_Meaning_impl_Meaning
 obtain ⟨r, h1, h2⟩ := index_loop (N := N) (l := l) (q := sameM x) (step := g_slices_Index_Simpl_Meaning_impl_Meaning_L1 N l x) (fun i y hy hi => by
  unfold g_slices_Index_Simpl_Meaning_impl_Meaning_L1 sameM
  rw [sel_pos (by omega), getI_nat hy, bnd_mk, Bool.and_true]
  cases (x.mWord == y.mWord && x.mSense == y.mSense) <;> rfl) (by unfold g_slices_Index_Simpl_Meaning_impl_Meaning_L1; rw [sel_neg (by omega)]) (by omega) l.length 0 N (by omega) (by omega)
 rw [show ((0 : Nat) : Int) = 0 from rfl] at h1
 rw [List.drop_zero] at h2
 rw [h1]
 rcases h2 with ⟨j, rfl, h⟩ | ⟨rfl, h⟩
 ·rw [h]
  show some (decide ((j : Int) ≥ 0)) = _
  rw [decide_eq_true (by omega)]
 ·rw [h]
  rfl
theorem p_s_HasSense {N : Nat} (hN : 67108864 < N) (l : List Gx.Meaning) (hl : l.length ≤ 1048576) (x : Gx.Meaning) : s_HasSense N l x.mWord x.mSense = some (l.any (sameM x)) := by
 unfold s_HasSense
 rw [loop_all (l := l) (fun y => !sameM x y) (b := true) (fun i y hy hi => by
  unfold s_HasSense_L1 sameM
  rw [sel_pos (by omega), getI_nat hy, bnd_mk, bnd_mk, show (y.mWord == x.mWord) = (x.mWord == y.mWord) from by rw [Bool.eq_iff_iff, beq_iff_eq, beq_iff_eq]; exact eq_comm, show (y.mSense == x.mSense) = (x.mSense == y.mSense) from by rw [Bool.eq_iff_iff, beq_iff_eq, beq_iff_eq]; exact eq_comm]
  cases (x.mWord == y.mWord) <;> cases (x.mSense == y.mSense) <;> rfl) (by unfold s_HasSense_L1; rw [sel_neg (by omega)]) (by omega) (by omega)]
 rw [List.all_eq_not_any_not]
 simp only [Bool.not_not]
 cases l.any (sameM x) <;> rfl
theorem p_i_AddMeaning {N : Nat} (hN : 67108864 < N) (l : List Gx.Meaning) (hl : l.length ≤ 1048576) (x : Gx.Meaning) : i_AddMeaning N l x = some (addM l x) := by
 have hk := takeWhile_le (fun y : Gx.Meaning => beforeM y x) l
 unfold i_AddMeaning addM g_slices_Clone_Simpl_Meaning_impl_Meaning
 rw [p_g_ContainsM hN l hl, bnd_mk, chk_pos (by omega)]
 simp only [bnd_mk]
 have := first_loop (l := l) (q := fun y : Gx.Meaning => beforeM y x) (step := i_AddMeaning_L1 N l x) (fun i y hy hi => by
  unfold i_AddMeaning_L1
  rw [sel_pos (by omega), getI_nat hy, bnd_mk, p_i_beforeMeaning, bnd_mk]
  cases beforeM y x <;> rfl) (by unfold i_AddMeaning_L1; rw [sel_neg (by omega)]) (by omega) l.length 0 N (by omega) (by omega)
 rw [show ((0 : Nat) : Int) = 0 from rfl] at this
 rw [this, bnd_mk, List.drop_zero, Nat.zero_add]
 unfold g_slices_Insert_Simpl_Meaning_impl_Meaning
 rw [chk_pos ⟨by omega, by omega, by omega, rfl⟩, bnd_mk, Int.toNat_natCast, p_i_IsDictionary hN, bnd_mk]
 cases l.any (sameM x)
 ·show sel (!isDict (putAt _ x l)) _ _ = _
  cases isDict (putAt (fun y => beforeM y x) x l) <;> rfl
 ·rfl
theorem p_s_AddMeaning {N : Nat} (hN : 67108864 < N) (l : List Gx.Meaning) (hl : l.length ≤ 1048576) (x : Gx.Meaning) : s_AddMeaning N l x = some (addM l x) := by
 have hk := takeWhile_le (fun y : Gx.Meaning => beforeM y x) l
 have hp := putAt_len (fun y : Gx.Meaning => beforeM y x) x l
 unfold s_AddMeaning addM
 have := first_loop (l := l) (q := fun y : Gx.Meaning => beforeM y x) (step := s_AddMeaning_L1 N l x) (fun i y hy hi => by
  unfold s_AddMeaning_L1
  rw [sel_pos (by omega), getI_nat hy, bnd_mk, p_s_l17Before, bnd_mk]
  cases beforeM y x <;> rfl) (by unfold s_AddMeaning_L1; rw [sel_neg (by omega)]) (by omega) l.length 0 N (by omega) (by omega)
 rw [show ((0 : Nat) : Int) = 0 from rfl] at this
 rw [this, bnd_mk, List.drop_zero, Nat.zero_add, sub_zero, sub_end, chk_pos ⟨by omega, by omega, by omega⟩, chk_pos (by rw [List.length_take]; simp only [List.length_nil]; omega), chk_pos (by rw [List.length_take]; simp only [List.length_singleton]; omega), chk_pos ⟨by omega, by omega, by omega⟩,
  chk_pos (by rw [List.length_append, List.length_take, List.length_drop]; simp only [List.length_singleton]; omega)]
 show bnd (bnd (s_HasSense N l x.mWord x.mSense) fun x4 => sel x4 (some true) (bnd (s_IsDictionary N (putAt (fun y => beforeM y x) x l)) fun x5 => some !x5)) _ = _
 rw [p_s_HasSense hN l (by omega), bnd_mk, p_s_IsDictionary hN _ (by omega), bnd_mk, chk_pos (by simp only [List.length_nil]; omega)]
 cases l.any (sameM x)
 ·show sel (!isDict (putAt _ x l)) _ _ = _
  cases isDict (putAt (fun y => beforeM y x) x l) <;> rfl
 ·rfl
def stepWord (h : Gx.House) (x : Gx.Listed) (m : Gx.Meaning) : Gx.House × Bool :=
 (⟨(addW h.mList x).1, (addM h.mDict m).1, h.mDesk, h.mIssues, h.mUses, h.mCorrections, h.mEntries, h.mNow⟩, (addW h.mList x).2 || (addM h.mDict m).2)
theorem p_i_StepWord {N : Nat} (hN : 67108864 < N) {h : Gx.House} (hx : CpHouse h) (x : Gx.Listed) (m : Gx.Meaning) : i_StepWord N h x m = some (stepWord h x m) := by
 unfold i_StepWord stepWord
 rw [p_i_copyHouse hN hx, bnd_mk, p_i_AddWord hN _ hx.list, bnd_mk, p_i_AddMeaning hN _ hx.dict, bnd_mk]
 cases (addW h.mList x).2 <;> rfl
theorem p_s_StepWord {N : Nat} (hN : 67108864 < N) {h : Gx.House} (hx : CpHouse h) (x : Gx.Listed) (m : Gx.Meaning) : s_StepWord N h x m = some (stepWord h x m) := by
 unfold s_StepWord stepWord
 rw [p_s_l33Copy hN hx, bnd_mk, p_s_AddWord hN _ hx.list x, bnd_mk, p_s_AddMeaning hN _ hx.dict m, bnd_mk]
 cases (addW h.mList x).2 <;> rfl
theorem stepWord_size (h : Gx.House) (x : Gx.Listed) (m : Gx.Meaning) : (stepWord h x m).1.size ≤ h.size + x.size + m.size + 2 := by
 have h1 : (addW h.mList x).1.length ≤ h.mList.length + 1 ∧ ((addW h.mList x).1.map (fun e : Gx.Listed => e.size)).sum ≤ (h.mList.map (fun e : Gx.Listed => e.size)).sum + x.size := by
  unfold addW
  split
  ·exact ⟨Nat.le_succ _, Nat.le_add_right _ _⟩
  ·split
   ·exact ⟨Nat.le_of_eq (putAt_len _ _ _), Nat.le_of_eq (putAt_sum _ _ _ _)⟩
   ·exact ⟨Nat.le_succ _, Nat.le_add_right _ _⟩
 have h2 : (addM h.mDict m).1.length ≤ h.mDict.length + 1 ∧ ((addM h.mDict m).1.map (fun e : Gx.Meaning => e.size)).sum ≤ (h.mDict.map (fun e : Gx.Meaning => e.size)).sum + m.size := by
  unfold addM
  split
  ·exact ⟨Nat.le_succ _, Nat.le_add_right _ _⟩
  ·split
   ·exact ⟨Nat.le_of_eq (putAt_len _ _ _), Nat.le_of_eq (putAt_sum _ _ _ _)⟩
   ·exact ⟨Nat.le_succ _, Nat.le_add_right _ _⟩
 unfold stepWord
 simp only [Gx.House.size]
 omega
theorem p_FnExactStepWord {N : Nat} (hN : 67108864 < N) (x : Gx.House) (hok : x.ok) (w : Gx.Listed) (hok' : w.ok) (q : Gx.Meaning) (hok'' : q.ok) : l_FnExactStepWord N x w q = some true := by
 unfold l_FnExactStepWord
 rw [p_szHouse hN x hok (by omega) (by omega), bnd_mk, sel_ite]
 split
 ·rfl
 rename_i h
 obtain ⟨e1, h1⟩ := szF_ok h
 rw [e1, p_szListed hN w hok' (by omega) (by omega), bnd_mk, sel_ite]
 split
 ·rfl
 rename_i h2
 obtain ⟨e2, h3⟩ := szF_ok h2
 rw [e2, p_szMeaning hN q hok'' (by omega) (by omega), bnd_mk, sel_ite]
 split
 ·rfl
 rename_i h4
 obtain ⟨_, h5⟩ := szF_ok h4
 have hs : x.size ≤ 1048576 := by omega
 have hs' := stepWord_size x w q
 obtain ⟨a, b, c, d, e, f', i, m, hm⟩ := mark_house hN x (by omega)
 obtain ⟨a', b', c', d', e', f'', i', m', hm', hh⟩ := marks_house hN (stepWord x w q).1 (by omega)
 have hq := p_eqHouse hN (stepWord x w q).1 (stepWord x w q).1 (by omega)
 simp only [bnd_mk, p_toHouse hN x hs, p_toListed hN w (by omega), p_toMeaning hN q (by omega), p_i_StepWord hN (cp_house hs), p_s_StepWord hN (cp_house hs), p_eqHouse hN x x (by omega), hq, hm, hm', hh, bne_self_eq_false, sel_false, decide_true, Bool.not_true, sel_neg (show ¬ ((m : Int) < 0) by omega), sel_neg (show ¬ ((m' : Int) < 0) by omega)]
end Lw
end Go.Proofs
