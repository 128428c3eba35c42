/- PRINTED BY gen.py (mine): the functions that the law reaches, as plain functions. -/
import Derived.Test.YtniibgdokfnomaaGreatAvLp
namespace Go.Proofs
open Go Go.Av
set_option maxRecDepth 100000
set_option maxHeartbeats 40000000
set_option linter.unusedVariables false
set_option linter.unusedSimpArgs false
namespace Lw
def g_slices_Clone_Simpl_Listed_impl_Listed (N : Nat) (l : List (Gx.Listed)) : Option (List (Gx.Listed)) := chk (l.length ≤ 274877906944) (some l)
def g_slices_Clone_Simpl_Meaning_impl_Meaning (N : Nat) (l : List (Gx.Meaning)) : Option (List (Gx.Meaning)) := chk (l.length ≤ 274877906944) (some l)
def g_slices_Clone_Simpl_Used_impl_Used (N : Nat) (l : List (Gx.Used)) : Option (List (Gx.Used)) := chk (l.length ≤ 274877906944) (some l)
def g_slices_Clone_Simpl_Entry_impl_Entry (N : Nat) (l : List (Gx.Entry)) : Option (List (Gx.Entry)) := chk (l.length ≤ 274877906944) (some l)
def g_slices_Insert_Simpl_Listed_impl_Listed (N : Nat) (l : List (Gx.Listed)) (i : Int) (v : List (Gx.Listed)) : Option (List (Gx.Listed)) := chk (0 ≤ i ∧ i ≤ (l.length : Int) ∧ l.length ≤ 4194304 ∧ v.length = 1) (some ((l.take (Int.toNat i) ++ v) ++ l.drop (Int.toNat i)))
def g_slices_Insert_Simpl_Meaning_impl_Meaning (N : Nat) (l : List (Gx.Meaning)) (i : Int) (v : List (Gx.Meaning)) : Option (List (Gx.Meaning)) := chk (0 ≤ i ∧ i ≤ (l.length : Int) ∧ l.length ≤ 4194304 ∧ v.length = 1) (some ((l.take (Int.toNat i) ++ v) ++ l.drop (Int.toNat i)))
def g_slices_Clone_Sint_int (N : Nat) (l : List (Int)) : Option (List (Int)) := chk (l.length ≤ 274877906944) (some l)
def g_slices_Clone_Simpl_Step_impl_Step (N : Nat) (l : List (Gx.Step)) : Option (List (Gx.Step)) := chk (l.length ≤ 274877906944) (some l)
def l_szListed (N : Nat) (v0 : Gx.Listed) (v1 : Int) : Option (Int) :=
 sel (decide ((w64 (v1 - (v0.mWord.length : Int))) < 0))
  (some (-1))
  (some (w64 (v1 - (v0.mWord.length : Int))))
def l_szListedS_L1 (N : Nat) (v0 : List (Gx.Listed)) (p1 : Int × Int) : Option (Sum (Int × Int) (Cut (Int) (Int))) :=
 sel (decide (p1.2 < (v0.length : Int)))
  (bnd (getI v0 p1.2) fun x1 =>
  bnd (l_szListed N x1 p1.1) fun x2 =>
  sel (decide (x2 < 0))
   (some (.inr (.rt ((-1)))))
   (some (.inl (x2, w64 (p1.2 + 1)))))
  (some (.inr (.nx p1.1)))
def l_szListedS (N : Nat) (v0 : List (Gx.Listed)) (v1 : Int) : Option (Int) :=
 sel (decide ((w64 (v1 - (v0.length : Int))) < 0))
  (some (-1))
  (cutb (α := Int) (
   loopN (l_szListedS_L1 N v0) N (w64 (v1 - (v0.length : Int)), 0)) fun t3 =>
  some t3)
def l_szMeaning (N : Nat) (v0 : Gx.Meaning) (v1 : Int) : Option (Int) :=
 sel (decide ((w64 (v1 - (v0.mWord.length : Int))) < 0))
  (some (-1))
  (some (w64 (v1 - (v0.mWord.length : Int))))
def l_szMeaningS_L1 (N : Nat) (v0 : List (Gx.Meaning)) (p1 : Int × Int) : Option (Sum (Int × Int) (Cut (Int) (Int))) :=
 sel (decide (p1.2 < (v0.length : Int)))
  (bnd (getI v0 p1.2) fun x1 =>
  bnd (l_szMeaning N x1 p1.1) fun x2 =>
  sel (decide (x2 < 0))
   (some (.inr (.rt ((-1)))))
   (some (.inl (x2, w64 (p1.2 + 1)))))
  (some (.inr (.nx p1.1)))
def l_szMeaningS (N : Nat) (v0 : List (Gx.Meaning)) (v1 : Int) : Option (Int) :=
 sel (decide ((w64 (v1 - (v0.length : Int))) < 0))
  (some (-1))
  (cutb (α := Int) (
   loopN (l_szMeaningS_L1 N v0) N (w64 (v1 - (v0.length : Int)), 0)) fun t3 =>
  some t3)
def l_szGrid (N : Nat) (v0 : Gx.Grid) (v1 : Int) : Option (Int) :=
 sel (decide ((w64 (v1 - (v0.mCells.length : Int))) < 0))
  (some (-1))
  (some (w64 (v1 - (v0.mCells.length : Int))))
def l_szStep (N : Nat) (v0 : Gx.Step) (v1 : Int) : Option (Int) :=
 sel (decide ((w64 (v1 - (v0.mWord.length : Int))) < 0))
  (some (-1))
  (some (w64 (v1 - (v0.mWord.length : Int))))
def l_szStepS_L1 (N : Nat) (v0 : List (Gx.Step)) (p1 : Int × Int) : Option (Sum (Int × Int) (Cut (Int) (Int))) :=
 sel (decide (p1.2 < (v0.length : Int)))
  (bnd (getI v0 p1.2) fun x1 =>
  bnd (l_szStep N x1 p1.1) fun x2 =>
  sel (decide (x2 < 0))
   (some (.inr (.rt ((-1)))))
   (some (.inl (x2, w64 (p1.2 + 1)))))
  (some (.inr (.nx p1.1)))
def l_szStepS (N : Nat) (v0 : List (Gx.Step)) (v1 : Int) : Option (Int) :=
 sel (decide ((w64 (v1 - (v0.length : Int))) < 0))
  (some (-1))
  (cutb (α := Int) (
   loopN (l_szStepS_L1 N v0) N (w64 (v1 - (v0.length : Int)), 0)) fun t3 =>
  some t3)
def l_szClue (N : Nat) (v0 : Gx.Clue) (v1 : Int) : Option (Int) :=
 bnd (l_szStepS N v0.mPlay v1) fun x1 =>
 sel (decide (x1 < 0))
  (some (-1))
  (some x1)
def l_szClueS_L1 (N : Nat) (v0 : List (Gx.Clue)) (p1 : Int × Int) : Option (Sum (Int × Int) (Cut (Int) (Int))) :=
 sel (decide (p1.2 < (v0.length : Int)))
  (bnd (getI v0 p1.2) fun x1 =>
  bnd (l_szClue N x1 p1.1) fun x2 =>
  sel (decide (x2 < 0))
   (some (.inr (.rt ((-1)))))
   (some (.inl (x2, w64 (p1.2 + 1)))))
  (some (.inr (.nx p1.1)))
def l_szClueS (N : Nat) (v0 : List (Gx.Clue)) (v1 : Int) : Option (Int) :=
 sel (decide ((w64 (v1 - (v0.length : Int))) < 0))
  (some (-1))
  (cutb (α := Int) (
   loopN (l_szClueS_L1 N v0) N (w64 (v1 - (v0.length : Int)), 0)) fun t3 =>
  some t3)
def l_szDraft (N : Nat) (v0 : Gx.Draft) (v1 : Int) : Option (Int) :=
 bnd (l_szGrid N v0.mGrid v1) fun x1 =>
 sel (decide (x1 < 0))
  (some (-1))
  (sel (decide ((w64 (x1 - (v0.mFill.length : Int))) < 0))
   (some (-1))
   (bnd (l_szClueS N v0.mClues (w64 (x1 - (v0.mFill.length : Int)))) fun x2 =>
   sel (decide (x2 < 0))
    (some (-1))
    (some x2)))
def l_szIntS (N : Nat) (v0 : List (Int)) (v1 : Int) : Option (Int) :=
 sel (decide ((w64 (v1 - (v0.length : Int))) < 0))
  (some (-1))
  (some (w64 (v1 - (v0.length : Int))))
def l_szPuzzle (N : Nat) (v0 : Gx.Puzzle) (v1 : Int) : Option (Int) :=
 bnd (l_szGrid N v0.mGrid v1) fun x1 =>
 sel (decide (x1 < 0))
  (some (-1))
  (bnd (l_szClueS N v0.mClues x1) fun x2 =>
  sel (decide (x2 < 0))
   (some (-1))
   (bnd (l_szIntS N v0.mSeals x2) fun x3 =>
   sel (decide (x3 < 0))
    (some (-1))
    (some x3)))
def l_szIssue (N : Nat) (v0 : Gx.Issue) (v1 : Int) : Option (Int) :=
 bnd (l_szPuzzle N v0.mPuzzle v1) fun x1 =>
 sel (decide (x1 < 0))
  (some (-1))
  (sel (decide ((w64 (x1 - (v0.mFill.length : Int))) < 0))
   (some (-1))
   (some (w64 (x1 - (v0.mFill.length : Int)))))
def l_szIssueS_L1 (N : Nat) (v0 : List (Gx.Issue)) (p1 : Int × Int) : Option (Sum (Int × Int) (Cut (Int) (Int))) :=
 sel (decide (p1.2 < (v0.length : Int)))
  (bnd (getI v0 p1.2) fun x1 =>
  bnd (l_szIssue N x1 p1.1) fun x2 =>
  sel (decide (x2 < 0))
   (some (.inr (.rt ((-1)))))
   (some (.inl (x2, w64 (p1.2 + 1)))))
  (some (.inr (.nx p1.1)))
def l_szIssueS (N : Nat) (v0 : List (Gx.Issue)) (v1 : Int) : Option (Int) :=
 sel (decide ((w64 (v1 - (v0.length : Int))) < 0))
  (some (-1))
  (cutb (α := Int) (
   loopN (l_szIssueS_L1 N v0) N (w64 (v1 - (v0.length : Int)), 0)) fun t3 =>
  some t3)
def l_szUsed (N : Nat) (v0 : Gx.Used) (v1 : Int) : Option (Int) :=
 sel (decide ((w64 (v1 - (v0.mWord.length : Int))) < 0))
  (some (-1))
  (some (w64 (v1 - (v0.mWord.length : Int))))
def l_szUsedS_L1 (N : Nat) (v0 : List (Gx.Used)) (p1 : Int × Int) : Option (Sum (Int × Int) (Cut (Int) (Int))) :=
 sel (decide (p1.2 < (v0.length : Int)))
  (bnd (getI v0 p1.2) fun x1 =>
  bnd (l_szUsed N x1 p1.1) fun x2 =>
  sel (decide (x2 < 0))
   (some (.inr (.rt ((-1)))))
   (some (.inl (x2, w64 (p1.2 + 1)))))
  (some (.inr (.nx p1.1)))
def l_szUsedS (N : Nat) (v0 : List (Gx.Used)) (v1 : Int) : Option (Int) :=
 sel (decide ((w64 (v1 - (v0.length : Int))) < 0))
  (some (-1))
  (cutb (α := Int) (
   loopN (l_szUsedS_L1 N v0) N (w64 (v1 - (v0.length : Int)), 0)) fun t3 =>
  some t3)
def l_szCorrection (N : Nat) (v0 : Gx.Correction) (v1 : Int) : Option (Int) :=
 bnd (l_szClue N v0.mClue v1) fun x1 =>
 sel (decide (x1 < 0))
  (some (-1))
  (some x1)
def l_szCorrectionS_L1 (N : Nat) (v0 : List (Gx.Correction)) (p1 : Int × Int) : Option (Sum (Int × Int) (Cut (Int) (Int))) :=
 sel (decide (p1.2 < (v0.length : Int)))
  (bnd (getI v0 p1.2) fun x1 =>
  bnd (l_szCorrection N x1 p1.1) fun x2 =>
  sel (decide (x2 < 0))
   (some (.inr (.rt ((-1)))))
   (some (.inl (x2, w64 (p1.2 + 1)))))
  (some (.inr (.nx p1.1)))
def l_szCorrectionS (N : Nat) (v0 : List (Gx.Correction)) (v1 : Int) : Option (Int) :=
 sel (decide ((w64 (v1 - (v0.length : Int))) < 0))
  (some (-1))
  (cutb (α := Int) (
   loopN (l_szCorrectionS_L1 N v0) N (w64 (v1 - (v0.length : Int)), 0)) fun t3 =>
  some t3)
def l_szEntry (N : Nat) (v0 : Gx.Entry) (v1 : Int) : Option (Int) :=
 sel (decide ((w64 (v1 - (v0.mFill.length : Int))) < 0))
  (some (-1))
  (some (w64 (v1 - (v0.mFill.length : Int))))
def l_szEntryS_L1 (N : Nat) (v0 : List (Gx.Entry)) (p1 : Int × Int) : Option (Sum (Int × Int) (Cut (Int) (Int))) :=
 sel (decide (p1.2 < (v0.length : Int)))
  (bnd (getI v0 p1.2) fun x1 =>
  bnd (l_szEntry N x1 p1.1) fun x2 =>
  sel (decide (x2 < 0))
   (some (.inr (.rt ((-1)))))
   (some (.inl (x2, w64 (p1.2 + 1)))))
  (some (.inr (.nx p1.1)))
def l_szEntryS (N : Nat) (v0 : List (Gx.Entry)) (v1 : Int) : Option (Int) :=
 sel (decide ((w64 (v1 - (v0.length : Int))) < 0))
  (some (-1))
  (cutb (α := Int) (
   loopN (l_szEntryS_L1 N v0) N (w64 (v1 - (v0.length : Int)), 0)) fun t3 =>
  some t3)
def l_szHouse (N : Nat) (v0 : Gx.House) (v1 : Int) : Option (Int) :=
 bnd (l_szListedS N v0.mList v1) fun x1 =>
 sel (decide (x1 < 0))
  (some (-1))
  (bnd (l_szMeaningS N v0.mDict x1) fun x2 =>
  sel (decide (x2 < 0))
   (some (-1))
   (bnd (l_szDraft N v0.mDesk x2) fun x3 =>
   sel (decide (x3 < 0))
    (some (-1))
    (bnd (l_szIssueS N v0.mIssues x3) fun x4 =>
    sel (decide (x4 < 0))
     (some (-1))
     (bnd (l_szUsedS N v0.mUses x4) fun x5 =>
     sel (decide (x5 < 0))
      (some (-1))
      (bnd (l_szCorrectionS N v0.mCorrections x5) fun x6 =>
      sel (decide (x6 < 0))
       (some (-1))
       (bnd (l_szEntryS N v0.mEntries x6) fun x7 =>
       sel (decide (x7 < 0))
        (some (-1))
        (some x7)))))))
def l_toListed (N : Nat) (v0 : Gx.Listed) : Option (Gx.Listed) :=
 some v0
def l_toListedS_L1 (N : Nat) (v0 : List (Gx.Listed)) (p1 : (List (Gx.Listed)) × Int) : Option (Sum ((List (Gx.Listed)) × Int) ((List (Gx.Listed)))) :=
 sel (decide (p1.2 < (v0.length : Int)))
  (bnd (getI v0 p1.2) fun x1 =>
  bnd (l_toListed N x1) fun x2 =>
  bnd (getI p1.1 p1.2) fun x3 =>
  some (.inl (List.set p1.1 (Int.toNat p1.2) x2, w64 (p1.2 + 1))))
  (some (.inr (p1.1)))
def l_toListedS (N : Nat) (v0 : List (Gx.Listed)) : Option ((List (Gx.Listed))) :=
 chk (0 ≤ (v0.length : Int) ∧ (v0.length : Int) ≤ 274877906944) <|
 bnd (α := (List (Gx.Listed))) (
  loopN (l_toListedS_L1 N v0) N (List.replicate (Int.toNat (v0.length : Int)) (⟨([] : List UInt8), 0, 0, 0⟩ : Gx.Listed), 0)) fun t4 =>
 some t4
def l_toMeaning (N : Nat) (v0 : Gx.Meaning) : Option (Gx.Meaning) :=
 some v0
def l_toMeaningS_L1 (N : Nat) (v0 : List (Gx.Meaning)) (p1 : (List (Gx.Meaning)) × Int) : Option (Sum ((List (Gx.Meaning)) × Int) ((List (Gx.Meaning)))) :=
 sel (decide (p1.2 < (v0.length : Int)))
  (bnd (getI v0 p1.2) fun x1 =>
  bnd (l_toMeaning N x1) fun x2 =>
  bnd (getI p1.1 p1.2) fun x3 =>
  some (.inl (List.set p1.1 (Int.toNat p1.2) x2, w64 (p1.2 + 1))))
  (some (.inr (p1.1)))
def l_toMeaningS (N : Nat) (v0 : List (Gx.Meaning)) : Option ((List (Gx.Meaning))) :=
 chk (0 ≤ (v0.length : Int) ∧ (v0.length : Int) ≤ 274877906944) <|
 bnd (α := (List (Gx.Meaning))) (
  loopN (l_toMeaningS_L1 N v0) N (List.replicate (Int.toNat (v0.length : Int)) (⟨([] : List UInt8), 0⟩ : Gx.Meaning), 0)) fun t4 =>
 some t4
def l_toGrid (N : Nat) (v0 : Gx.Grid) : Option (Gx.Grid) :=
 some v0
def l_toStep (N : Nat) (v0 : Gx.Step) : Option (Gx.Step) :=
 some v0
def l_toStepS_L1 (N : Nat) (v0 : List (Gx.Step)) (p1 : (List (Gx.Step)) × Int) : Option (Sum ((List (Gx.Step)) × Int) ((List (Gx.Step)))) :=
 sel (decide (p1.2 < (v0.length : Int)))
  (bnd (getI v0 p1.2) fun x1 =>
  bnd (l_toStep N x1) fun x2 =>
  bnd (getI p1.1 p1.2) fun x3 =>
  some (.inl (List.set p1.1 (Int.toNat p1.2) x2, w64 (p1.2 + 1))))
  (some (.inr (p1.1)))
def l_toStepS (N : Nat) (v0 : List (Gx.Step)) : Option ((List (Gx.Step))) :=
 chk (0 ≤ (v0.length : Int) ∧ (v0.length : Int) ≤ 274877906944) <|
 bnd (α := (List (Gx.Step))) (
  loopN (l_toStepS_L1 N v0) N (List.replicate (Int.toNat (v0.length : Int)) (⟨0, ([] : List UInt8), 0, 0⟩ : Gx.Step), 0)) fun t4 =>
 some t4
def l_toClue (N : Nat) (v0 : Gx.Clue) : Option (Gx.Clue) :=
 bnd (l_toStepS N v0.mPlay) fun x1 =>
 some (⟨v0.mSense, x1⟩ : Gx.Clue)
def l_toClueS_L1 (N : Nat) (v0 : List (Gx.Clue)) (p1 : (List (Gx.Clue)) × Int) : Option (Sum ((List (Gx.Clue)) × Int) ((List (Gx.Clue)))) :=
 sel (decide (p1.2 < (v0.length : Int)))
  (bnd (getI v0 p1.2) fun x1 =>
  bnd (l_toClue N x1) fun x2 =>
  bnd (getI p1.1 p1.2) fun x3 =>
  some (.inl (List.set p1.1 (Int.toNat p1.2) x2, w64 (p1.2 + 1))))
  (some (.inr (p1.1)))
def l_toClueS (N : Nat) (v0 : List (Gx.Clue)) : Option ((List (Gx.Clue))) :=
 chk (0 ≤ (v0.length : Int) ∧ (v0.length : Int) ≤ 274877906944) <|
 bnd (α := (List (Gx.Clue))) (
  loopN (l_toClueS_L1 N v0) N (List.replicate (Int.toNat (v0.length : Int)) (⟨0, []⟩ : Gx.Clue), 0)) fun t4 =>
 some t4
def l_toDraft (N : Nat) (v0 : Gx.Draft) : Option (Gx.Draft) :=
 bnd (l_toGrid N v0.mGrid) fun x1 =>
 bnd (l_toClueS N v0.mClues) fun x2 =>
 some (⟨(⟨x1.mRows, x1.mCols, x1.mCells⟩ : Gx.Grid), v0.mFill, x2, v0.mVersion⟩ : Gx.Draft)
def l_toIntS_L1 (N : Nat) (v0 : List (Int)) (p1 : (List (Int)) × Int) : Option (Sum ((List (Int)) × Int) ((List (Int)))) :=
 sel (decide (p1.2 < (v0.length : Int)))
  (bnd (getI v0 p1.2) fun x1 =>
  bnd (getI p1.1 p1.2) fun x2 =>
  some (.inl (List.set p1.1 (Int.toNat p1.2) x1, w64 (p1.2 + 1))))
  (some (.inr (p1.1)))
def l_toIntS (N : Nat) (v0 : List (Int)) : Option ((List (Int))) :=
 chk (0 ≤ (v0.length : Int) ∧ (v0.length : Int) ≤ 274877906944) <|
 bnd (α := (List (Int))) (
  loopN (l_toIntS_L1 N v0) N (List.replicate (Int.toNat (v0.length : Int)) 0, 0)) fun t3 =>
 some t3
def l_toPuzzle (N : Nat) (v0 : Gx.Puzzle) : Option (Gx.Puzzle) :=
 bnd (l_toGrid N v0.mGrid) fun x1 =>
 bnd (l_toClueS N v0.mClues) fun x2 =>
 bnd (l_toIntS N v0.mSeals) fun x3 =>
 some (⟨(⟨x1.mRows, x1.mCols, x1.mCells⟩ : Gx.Grid), x2, x3, v0.mSalt⟩ : Gx.Puzzle)
def l_toIssue (N : Nat) (v0 : Gx.Issue) : Option (Gx.Issue) :=
 bnd (l_toPuzzle N v0.mPuzzle) fun x1 =>
 some (⟨v0.mNumber, (⟨(⟨x1.mGrid.mRows, x1.mGrid.mCols, x1.mGrid.mCells⟩ : Gx.Grid), x1.mClues, x1.mSeals, x1.mSalt⟩ : Gx.Puzzle), v0.mFill, v0.mOpen, v0.mClose⟩ : Gx.Issue)
def l_toIssueS_L1 (N : Nat) (v0 : List (Gx.Issue)) (p1 : (List (Gx.Issue)) × Int) : Option (Sum ((List (Gx.Issue)) × Int) ((List (Gx.Issue)))) :=
 sel (decide (p1.2 < (v0.length : Int)))
  (bnd (getI v0 p1.2) fun x1 =>
  bnd (l_toIssue N x1) fun x2 =>
  bnd (getI p1.1 p1.2) fun x3 =>
  some (.inl (List.set p1.1 (Int.toNat p1.2) x2, w64 (p1.2 + 1))))
  (some (.inr (p1.1)))
def l_toIssueS (N : Nat) (v0 : List (Gx.Issue)) : Option ((List (Gx.Issue))) :=
 chk (0 ≤ (v0.length : Int) ∧ (v0.length : Int) ≤ 274877906944) <|
 bnd (α := (List (Gx.Issue))) (
  loopN (l_toIssueS_L1 N v0) N (List.replicate (Int.toNat (v0.length : Int)) (⟨0, (⟨(⟨0, 0, ([] : List UInt8)⟩ : Gx.Grid), [], [], 0⟩ : Gx.Puzzle), ([] : List UInt8), 0, 0⟩ : Gx.Issue), 0)) fun t4 =>
 some t4
def l_toUsed (N : Nat) (v0 : Gx.Used) : Option (Gx.Used) :=
 some v0
def l_toUsedS_L1 (N : Nat) (v0 : List (Gx.Used)) (p1 : (List (Gx.Used)) × Int) : Option (Sum ((List (Gx.Used)) × Int) ((List (Gx.Used)))) :=
 sel (decide (p1.2 < (v0.length : Int)))
  (bnd (getI v0 p1.2) fun x1 =>
  bnd (l_toUsed N x1) fun x2 =>
  bnd (getI p1.1 p1.2) fun x3 =>
  some (.inl (List.set p1.1 (Int.toNat p1.2) x2, w64 (p1.2 + 1))))
  (some (.inr (p1.1)))
def l_toUsedS (N : Nat) (v0 : List (Gx.Used)) : Option ((List (Gx.Used))) :=
 chk (0 ≤ (v0.length : Int) ∧ (v0.length : Int) ≤ 274877906944) <|
 bnd (α := (List (Gx.Used))) (
  loopN (l_toUsedS_L1 N v0) N (List.replicate (Int.toNat (v0.length : Int)) (⟨([] : List UInt8), 0⟩ : Gx.Used), 0)) fun t4 =>
 some t4
def l_toCorrection (N : Nat) (v0 : Gx.Correction) : Option (Gx.Correction) :=
 bnd (l_toClue N v0.mClue) fun x1 =>
 some (⟨v0.mIssue, v0.mSlot, (⟨x1.mSense, x1.mPlay⟩ : Gx.Clue), v0.mTick⟩ : Gx.Correction)
def l_toCorrectionS_L1 (N : Nat) (v0 : List (Gx.Correction)) (p1 : (List (Gx.Correction)) × Int) : Option (Sum ((List (Gx.Correction)) × Int) ((List (Gx.Correction)))) :=
 sel (decide (p1.2 < (v0.length : Int)))
  (bnd (getI v0 p1.2) fun x1 =>
  bnd (l_toCorrection N x1) fun x2 =>
  bnd (getI p1.1 p1.2) fun x3 =>
  some (.inl (List.set p1.1 (Int.toNat p1.2) x2, w64 (p1.2 + 1))))
  (some (.inr (p1.1)))
def l_toCorrectionS (N : Nat) (v0 : List (Gx.Correction)) : Option ((List (Gx.Correction))) :=
 chk (0 ≤ (v0.length : Int) ∧ (v0.length : Int) ≤ 274877906944) <|
 bnd (α := (List (Gx.Correction))) (
  loopN (l_toCorrectionS_L1 N v0) N (List.replicate (Int.toNat (v0.length : Int)) (⟨0, 0, (⟨0, []⟩ : Gx.Clue), 0⟩ : Gx.Correction), 0)) fun t4 =>
 some t4
def l_toEntry (N : Nat) (v0 : Gx.Entry) : Option (Gx.Entry) :=
 some v0
def l_toEntryS_L1 (N : Nat) (v0 : List (Gx.Entry)) (p1 : (List (Gx.Entry)) × Int) : Option (Sum ((List (Gx.Entry)) × Int) ((List (Gx.Entry)))) :=
 sel (decide (p1.2 < (v0.length : Int)))
  (bnd (getI v0 p1.2) fun x1 =>
  bnd (l_toEntry N x1) fun x2 =>
  bnd (getI p1.1 p1.2) fun x3 =>
  some (.inl (List.set p1.1 (Int.toNat p1.2) x2, w64 (p1.2 + 1))))
  (some (.inr (p1.1)))
def l_toEntryS (N : Nat) (v0 : List (Gx.Entry)) : Option ((List (Gx.Entry))) :=
 chk (0 ≤ (v0.length : Int) ∧ (v0.length : Int) ≤ 274877906944) <|
 bnd (α := (List (Gx.Entry))) (
  loopN (l_toEntryS_L1 N v0) N (List.replicate (Int.toNat (v0.length : Int)) (⟨0, 0, 0, ([] : List UInt8)⟩ : Gx.Entry), 0)) fun t4 =>
 some t4
def l_toHouse (N : Nat) (v0 : Gx.House) : Option (Gx.House) :=
 bnd (l_toListedS N v0.mList) fun x1 =>
 bnd (l_toMeaningS N v0.mDict) fun x2 =>
 bnd (l_toDraft N v0.mDesk) fun x3 =>
 bnd (l_toIssueS N v0.mIssues) fun x4 =>
 bnd (l_toUsedS N v0.mUses) fun x5 =>
 bnd (l_toCorrectionS N v0.mCorrections) fun x6 =>
 bnd (l_toEntryS N v0.mEntries) fun x7 =>
 some (⟨x1, x2, (⟨(⟨x3.mGrid.mRows, x3.mGrid.mCols, x3.mGrid.mCells⟩ : Gx.Grid), x3.mFill, x3.mClues, x3.mVersion⟩ : Gx.Draft), x4, x5, x6, x7, v0.mNow⟩ : Gx.House)
def s_l18Copy (N : Nat) (v0 : Gx.Clue) : Option (Gx.Clue) :=
 chk (([] : List (Gx.Step)).length + v0.mPlay.length ≤ 274877906944) <|
 some v0
def s_l21Clues_L1 (N : Nat) (v0 : List (Gx.Clue)) (p1 : (List (Gx.Clue)) × Int) : Option (Sum ((List (Gx.Clue)) × Int) ((List (Gx.Clue)))) :=
 sel (decide (p1.2 < (v0.length : Int)))
  (bnd (getI v0 p1.2) fun x1 =>
  bnd (s_l18Copy N x1) fun x2 =>
  chk (p1.1.length + ([x2]).length ≤ 274877906944) <|
  some (.inl (p1.1 ++ ([x2]), w64 (p1.2 + 1))))
  (some (.inr (p1.1)))
def s_l21Clues (N : Nat) (v0 : List (Gx.Clue)) : Option ((List (Gx.Clue))) :=
 bnd (α := (List (Gx.Clue))) (
  loopN (s_l21Clues_L1 N v0) N ([], 0)) fun t3 =>
 some t3
def s_l27Copy (N : Nat) (v0 : Gx.Draft) : Option (Gx.Draft) :=
 bnd (s_l21Clues N v0.mClues) fun x1 =>
 some (⟨(⟨v0.mGrid.mRows, v0.mGrid.mCols, v0.mGrid.mCells⟩ : Gx.Grid), v0.mFill, x1, v0.mVersion⟩ : Gx.Draft)
def s_l31Copy_L1 (N : Nat) (v0 : List (Gx.Correction)) (p1 : (List (Gx.Correction)) × Int) : Option (Sum ((List (Gx.Correction)) × Int) ((List (Gx.Correction)))) :=
 sel (decide (p1.2 < (v0.length : Int)))
  (bnd (getI v0 p1.2) fun x1 =>
  bnd (s_l18Copy N x1.mClue) fun x2 =>
  chk (p1.1.length + ([(⟨x1.mIssue, x1.mSlot, (⟨x2.mSense, x2.mPlay⟩ : Gx.Clue), x1.mTick⟩ : Gx.Correction)]).length ≤ 274877906944) <|
  some (.inl (p1.1 ++ ([(⟨x1.mIssue, x1.mSlot, (⟨x2.mSense, x2.mPlay⟩ : Gx.Clue), x1.mTick⟩ : Gx.Correction)]), w64 (p1.2 + 1))))
  (some (.inr (p1.1)))
def s_l31Copy (N : Nat) (v0 : List (Gx.Correction)) : Option ((List (Gx.Correction))) :=
 bnd (α := (List (Gx.Correction))) (
  loopN (s_l31Copy_L1 N v0) N ([], 0)) fun t3 =>
 some t3
def s_l21Copy (N : Nat) (v0 : Gx.Puzzle) : Option (Gx.Puzzle) :=
 bnd (s_l21Clues N v0.mClues) fun x1 =>
 chk (([] : List (Int)).length + v0.mSeals.length ≤ 274877906944) <|
 some (⟨(⟨v0.mGrid.mRows, v0.mGrid.mCols, v0.mGrid.mCells⟩ : Gx.Grid), x1, v0.mSeals, v0.mSalt⟩ : Gx.Puzzle)
def s_l30Copy (N : Nat) (v0 : Gx.Issue) : Option (Gx.Issue) :=
 bnd (s_l21Copy N v0.mPuzzle) fun x1 =>
 some (⟨v0.mNumber, (⟨(⟨x1.mGrid.mRows, x1.mGrid.mCols, x1.mGrid.mCells⟩ : Gx.Grid), x1.mClues, x1.mSeals, x1.mSalt⟩ : Gx.Puzzle), v0.mFill, v0.mOpen, v0.mClose⟩ : Gx.Issue)
def s_l33Copy_L1 (N : Nat) (v0 : Gx.House) (p1 : (List (Gx.Issue)) × Int) : Option (Sum ((List (Gx.Issue)) × Int) ((List (Gx.Issue)))) :=
 sel (decide (p1.2 < (v0.mIssues.length : Int)))
  (bnd (getI v0.mIssues p1.2) fun x3 =>
  bnd (s_l30Copy N x3) fun x4 =>
  chk (p1.1.length + ([x4]).length ≤ 274877906944) <|
  some (.inl (p1.1 ++ ([x4]), w64 (p1.2 + 1))))
  (some (.inr (p1.1)))
def s_l33Copy (N : Nat) (v0 : Gx.House) : Option (Gx.House) :=
 chk (([] : List (Gx.Listed)).length + v0.mList.length ≤ 274877906944) <|
 chk (([] : List (Gx.Meaning)).length + v0.mDict.length ≤ 274877906944) <|
 bnd (s_l27Copy N v0.mDesk) fun x1 =>
 chk (([] : List (Gx.Used)).length + v0.mUses.length ≤ 274877906944) <|
 bnd (s_l31Copy N v0.mCorrections) fun x2 =>
 chk (([] : List (Gx.Entry)).length + v0.mEntries.length ≤ 274877906944) <|
 bnd (α := (List (Gx.Issue))) (
  loopN (s_l33Copy_L1 N v0) N ([], 0)) fun t5 =>
 some (⟨v0.mList, v0.mDict, (⟨(⟨x1.mGrid.mRows, x1.mGrid.mCols, x1.mGrid.mCells⟩ : Gx.Grid), x1.mFill, x1.mClues, x1.mVersion⟩ : Gx.Draft), t5, v0.mUses, x2, v0.mEntries, v0.mNow⟩ : Gx.House)
def s_BeforeWord (N : Nat) (v0 : List UInt8) (v1 : List UInt8) : Option (Bool) :=
 sel ((v0.length : Int) != (v1.length : Int))
  (some (decide ((v0.length : Int) < (v1.length : Int))))
  (some (Op.bytesLess v0 v1))
def s_l5Find_L1 (N : Nat) (v0 : List (Gx.Listed)) (v1 : List UInt8) (p1 : Int) : Option (Sum (Int) (Cut (Unit) (Int))) :=
 sel (decide (p1 < (v0.length : Int)))
  (bnd (getI v0 p1) fun x1 =>
  sel (x1.mWord == v1)
   (some (.inr (.rt (p1))))
   (some (.inl (w64 (p1 + 1)))))
  (some (.inr (.nx ())))
def s_l5Find (N : Nat) (v0 : List (Gx.Listed)) (v1 : List UInt8) : Option (Int) :=
 cutb (α := Unit) (
  loopN (s_l5Find_L1 N v0 v1) N 0) fun t2 =>
 some (-1)
def s_l1In (N : Nat) (v0 : Int) (v1 : Int) (v2 : Int) : Option (Bool) :=
 sel (decide (v0 ≥ v1))
  (some (decide (v0 ≤ v2)))
  (some false)
def s_IsWord_L1 (N : Nat) (v0 : List UInt8) (p1 : Int) : Option (Sum (Int) (Cut (Unit) (Bool))) :=
 sel (decide (p1 < (v0.length : Int)))
  (chk (0 ≤ p1 ∧ p1 < (v0.length : Int)) <|
  sel (decide ((byteI v0 p1) < 97))
   (some (.inr (.rt (false))))
   (chk (0 ≤ p1 ∧ p1 < (v0.length : Int)) <|
   sel (decide ((byteI v0 p1) > 122))
    (some (.inr (.rt (false))))
    (some (.inl (w64 (p1 + 1))))))
  (some (.inr (.nx ())))
def s_IsWord (N : Nat) (v0 : List UInt8) : Option (Bool) :=
 bnd (s_l1In N (v0.length : Int) 1 8) fun x1 =>
 sel (!x1)
  (some false)
  (cutb (α := Unit) (
   loopN (s_IsWord_L1 N v0) N 0) fun t2 =>
  some true)
def s_IsList_L1 (N : Nat) (v0 : List (Gx.Listed)) (p1 : Int) : Option (Sum (Int) (Cut (Unit) (Bool))) :=
 sel (decide (p1 < (v0.length : Int)))
  (bnd (getI v0 p1) fun x1 =>
  bnd (s_IsWord N x1.mWord) fun x2 =>
  sel (!x2)
   (some (.inr (.rt (false))))
   (sel (decide (x1.mFrom < 0))
    (some (.inr (.rt (false))))
    (sel (decide (x1.mFrom > x1.mUntil))
     (some (.inr (.rt (false))))
     (sel (decide (x1.mUntil > 1000))
      (some (.inr (.rt (false))))
      (bnd (s_l1In N x1.mScore 0 99) fun x3 =>
      sel (!x3)
       (some (.inr (.rt (false))))
       (sel (decide (p1 > 0))
        (bnd (getI v0 (w64 (p1 - 1))) fun x4 =>
        bnd (s_BeforeWord N x4.mWord x1.mWord) fun x5 =>
        sel (!x5)
         (some (.inr (.rt (false))))
         (some (.inl (w64 (p1 + 1)))))
        (some (.inl (w64 (p1 + 1))))))))))
  (some (.inr (.nx ())))
def s_IsList (N : Nat) (v0 : List (Gx.Listed)) : Option (Bool) :=
 cutb (α := Unit) (
  loopN (s_IsList_L1 N v0) N 0) fun t6 =>
 some (decide ((v0.length : Int) ≤ 40))
def s_AddWord_L1 (N : Nat) (v0 : List (Gx.Listed)) (v1 : Gx.Listed) (p1 : Int) : Option (Sum (Int) (Int)) :=
 sel (decide (p1 < (v0.length : Int)))
  (bnd (getI v0 p1) fun x1 =>
  bnd (s_BeforeWord N x1.mWord v1.mWord) fun x2 =>
  sel (x2)
   (some (.inl (w64 (p1 + 1))))
   (some (.inr (p1))))
  (some (.inr (p1)))
def s_AddWord (N : Nat) (v0 : List (Gx.Listed)) (v1 : Gx.Listed) : Option ((List (Gx.Listed)) × Bool) :=
 bnd (α := Int) (
  loopN (s_AddWord_L1 N v0 v1) N 0) fun t3 =>
 chk (0 ≤ (0 : Int) ∧ 0 ≤ t3 ∧ t3 ≤ (v0.length : Int)) <|
 chk (([] : List (Gx.Listed)).length + (sub v0 0 t3).length ≤ 274877906944) <|
 chk ((sub v0 0 t3).length + ([v1]).length ≤ 274877906944) <|
 chk (0 ≤ t3 ∧ t3 ≤ (v0.length : Int) ∧ (v0.length : Int) ≤ (v0.length : Int)) <|
 chk (((sub v0 0 t3) ++ ([v1])).length + (sub v0 t3 (v0.length : Int)).length ≤ 274877906944) <|
 bnd (α := Bool) (
  bnd (s_l5Find N v0 v1.mWord) fun x4 =>
  sel (decide (x4 ≥ 0))
   (some true)
   (bnd (s_IsList N (((sub v0 0 t3) ++ ([v1])) ++ (sub v0 t3 (v0.length : Int)))) fun x5 =>
   some !x5)) fun t6 =>
 sel (t6)
  (chk (([] : List (Gx.Listed)).length + v0.length ≤ 274877906944) <|
  some (v0, false))
  (some (((sub v0 0 t3) ++ ([v1])) ++ (sub v0 t3 (v0.length : Int)), true))
def s_l17Before (N : Nat) (v0 : Gx.Meaning) (v1 : Gx.Meaning) : Option (Bool) :=
 bnd (s_BeforeWord N v0.mWord v1.mWord) fun x1 =>
 sel (x1)
  (some true)
  (sel (v0.mWord == v1.mWord)
   (some (decide (v0.mSense < v1.mSense)))
   (some false))
def s_HasSense_L1 (N : Nat) (v0 : List (Gx.Meaning)) (v1 : List UInt8) (v2 : Int) (p1 : Int) : Option (Sum (Int) (Cut (Unit) (Bool))) :=
 sel (decide (p1 < (v0.length : Int)))
  (bnd (getI v0 p1) fun x1 =>
  sel (x1.mWord == v1)
   (bnd (getI v0 p1) fun x2 =>
   sel (x2.mSense == v2)
    (some (.inr (.rt (true))))
    (some (.inl (w64 (p1 + 1)))))
   (some (.inl (w64 (p1 + 1)))))
  (some (.inr (.nx ())))
def s_HasSense (N : Nat) (v0 : List (Gx.Meaning)) (v1 : List UInt8) (v2 : Int) : Option (Bool) :=
 cutb (α := Unit) (
  loopN (s_HasSense_L1 N v0 v1 v2) N 0) fun t3 =>
 some false
def s_IsDictionary_L1 (N : Nat) (v0 : List (Gx.Meaning)) (p1 : Int) : Option (Sum (Int) (Cut (Unit) (Bool))) :=
 sel (decide (p1 < (v0.length : Int)))
  (bnd (getI v0 p1) fun x1 =>
  bnd (s_IsWord N x1.mWord) fun x2 =>
  sel (!x2)
   (some (.inr (.rt (false))))
   (bnd (getI v0 p1) fun x3 =>
   bnd (s_l1In N x3.mSense 1 99) fun x4 =>
   sel (!x4)
    (some (.inr (.rt (false))))
    (sel (decide (p1 > 0))
     (bnd (getI v0 (w64 (p1 - 1))) fun x5 =>
     bnd (getI v0 p1) fun x6 =>
     bnd (s_l17Before N x5 x6) fun x7 =>
     sel (!x7)
      (some (.inr (.rt (false))))
      (some (.inl (w64 (p1 + 1)))))
     (some (.inl (w64 (p1 + 1)))))))
  (some (.inr (.nx ())))
def s_IsDictionary (N : Nat) (v0 : List (Gx.Meaning)) : Option (Bool) :=
 cutb (α := Unit) (
  loopN (s_IsDictionary_L1 N v0) N 0) fun t8 =>
 some (decide ((v0.length : Int) ≤ 40))
def s_AddMeaning_L1 (N : Nat) (v0 : List (Gx.Meaning)) (v1 : Gx.Meaning) (p1 : Int) : Option (Sum (Int) (Int)) :=
 sel (decide (p1 < (v0.length : Int)))
  (bnd (getI v0 p1) fun x1 =>
  bnd (s_l17Before N x1 v1) fun x2 =>
  sel (x2)
   (some (.inl (w64 (p1 + 1))))
   (some (.inr (p1))))
  (some (.inr (p1)))
def s_AddMeaning (N : Nat) (v0 : List (Gx.Meaning)) (v1 : Gx.Meaning) : Option ((List (Gx.Meaning)) × Bool) :=
 bnd (α := Int) (
  loopN (s_AddMeaning_L1 N v0 v1) N 0) fun t3 =>
 chk (0 ≤ (0 : Int) ∧ 0 ≤ t3 ∧ t3 ≤ (v0.length : Int)) <|
 chk (([] : List (Gx.Meaning)).length + (sub v0 0 t3).length ≤ 274877906944) <|
 chk ((sub v0 0 t3).length + ([v1]).length ≤ 274877906944) <|
 chk (0 ≤ t3 ∧ t3 ≤ (v0.length : Int) ∧ (v0.length : Int) ≤ (v0.length : Int)) <|
 chk (((sub v0 0 t3) ++ ([v1])).length + (sub v0 t3 (v0.length : Int)).length ≤ 274877906944) <|
 bnd (α := Bool) (
  bnd (s_HasSense N v0 v1.mWord v1.mSense) fun x4 =>
  sel (x4)
   (some true)
   (bnd (s_IsDictionary N (((sub v0 0 t3) ++ ([v1])) ++ (sub v0 t3 (v0.length : Int)))) fun x5 =>
   some !x5)) fun t6 =>
 sel (t6)
  (chk (([] : List (Gx.Meaning)).length + v0.length ≤ 274877906944) <|
  some (v0, false))
  (some (((sub v0 0 t3) ++ ([v1])) ++ (sub v0 t3 (v0.length : Int)), true))
def s_StepWord (N : Nat) (v0 : Gx.House) (v1 : Gx.Listed) (v2 : Gx.Meaning) : Option (Gx.House × Bool) :=
 bnd (s_l33Copy N v0) fun x1 =>
 bnd (s_AddWord N v0.mList v1) fun x2 =>
 bnd (s_AddMeaning N v0.mDict v2) fun x3 =>
 sel (x2.2)
  (some ((⟨x2.1, x3.1, (⟨(⟨x1.mDesk.mGrid.mRows, x1.mDesk.mGrid.mCols, x1.mDesk.mGrid.mCells⟩ : Gx.Grid), x1.mDesk.mFill, x1.mDesk.mClues, x1.mDesk.mVersion⟩ : Gx.Draft), x1.mIssues, x1.mUses, x1.mCorrections, x1.mEntries, x1.mNow⟩ : Gx.House), true))
  (some ((⟨x2.1, x3.1, (⟨(⟨x1.mDesk.mGrid.mRows, x1.mDesk.mGrid.mCols, x1.mDesk.mGrid.mCells⟩ : Gx.Grid), x1.mDesk.mFill, x1.mDesk.mClues, x1.mDesk.mVersion⟩ : Gx.Draft), x1.mIssues, x1.mUses, x1.mCorrections, x1.mEntries, x1.mNow⟩ : Gx.House), x3.2))
def i_copyClue (N : Nat) (v0 : Gx.Clue) : Option (Gx.Clue) :=
 bnd (g_slices_Clone_Simpl_Step_impl_Step N v0.mPlay) fun x1 =>
 some (⟨v0.mSense, x1⟩ : Gx.Clue)
def i_copyClues_L1 (N : Nat) (v0 : List (Gx.Clue)) (p1 : (List (Gx.Clue)) × Int) : Option (Sum ((List (Gx.Clue)) × Int) ((List (Gx.Clue)))) :=
 sel (decide (p1.2 < (v0.length : Int)))
  (bnd (getI v0 p1.2) fun x1 =>
  bnd (i_copyClue N x1) fun x2 =>
  chk (p1.1.length + ([x2]).length ≤ 274877906944) <|
  some (.inl (p1.1 ++ ([x2]), w64 (p1.2 + 1))))
  (some (.inr (p1.1)))
def i_copyClues (N : Nat) (v0 : List (Gx.Clue)) : Option ((List (Gx.Clue))) :=
 bnd (α := (List (Gx.Clue))) (
  loopN (i_copyClues_L1 N v0) N ([], 0)) fun t3 =>
 some t3
def i_copyDraft (N : Nat) (v0 : Gx.Draft) : Option (Gx.Draft) :=
 bnd (i_copyClues N v0.mClues) fun x1 =>
 some (⟨(⟨v0.mGrid.mRows, v0.mGrid.mCols, v0.mGrid.mCells⟩ : Gx.Grid), v0.mFill, x1, v0.mVersion⟩ : Gx.Draft)
def i_copyPuzzle (N : Nat) (v0 : Gx.Puzzle) : Option (Gx.Puzzle) :=
 bnd (i_copyClues N v0.mClues) fun x1 =>
 bnd (g_slices_Clone_Sint_int N v0.mSeals) fun x2 =>
 some (⟨(⟨v0.mGrid.mRows, v0.mGrid.mCols, v0.mGrid.mCells⟩ : Gx.Grid), x1, x2, v0.mSalt⟩ : Gx.Puzzle)
def i_copyIssue (N : Nat) (v0 : Gx.Issue) : Option (Gx.Issue) :=
 bnd (i_copyPuzzle N v0.mPuzzle) fun x1 =>
 some (⟨v0.mNumber, (⟨(⟨x1.mGrid.mRows, x1.mGrid.mCols, x1.mGrid.mCells⟩ : Gx.Grid), x1.mClues, x1.mSeals, x1.mSalt⟩ : Gx.Puzzle), v0.mFill, v0.mOpen, v0.mClose⟩ : Gx.Issue)
def i_copyCorrections_L1 (N : Nat) (v0 : List (Gx.Correction)) (p1 : (List (Gx.Correction)) × Int) : Option (Sum ((List (Gx.Correction)) × Int) ((List (Gx.Correction)))) :=
 sel (decide (p1.2 < (v0.length : Int)))
  (bnd (getI v0 p1.2) fun x1 =>
  bnd (i_copyClue N x1.mClue) fun x2 =>
  chk (p1.1.length + ([(⟨x1.mIssue, x1.mSlot, (⟨x2.mSense, x2.mPlay⟩ : Gx.Clue), x1.mTick⟩ : Gx.Correction)]).length ≤ 274877906944) <|
  some (.inl (p1.1 ++ ([(⟨x1.mIssue, x1.mSlot, (⟨x2.mSense, x2.mPlay⟩ : Gx.Clue), x1.mTick⟩ : Gx.Correction)]), w64 (p1.2 + 1))))
  (some (.inr (p1.1)))
def i_copyCorrections (N : Nat) (v0 : List (Gx.Correction)) : Option ((List (Gx.Correction))) :=
 bnd (α := (List (Gx.Correction))) (
  loopN (i_copyCorrections_L1 N v0) N ([], 0)) fun t3 =>
 some t3
def i_copyHouse_L1 (N : Nat) (v0 : Gx.House) (p1 : (List (Gx.Issue)) × Int) : Option (Sum ((List (Gx.Issue)) × Int) ((List (Gx.Issue)))) :=
 sel (decide (p1.2 < (v0.mIssues.length : Int)))
  (bnd (getI v0.mIssues p1.2) fun x4 =>
  bnd (i_copyIssue N x4) fun x5 =>
  chk (p1.1.length + ([x5]).length ≤ 274877906944) <|
  some (.inl (p1.1 ++ ([x5]), w64 (p1.2 + 1))))
  (some (.inr (p1.1)))
def i_copyHouse (N : Nat) (v0 : Gx.House) : Option (Gx.House) :=
 bnd (g_slices_Clone_Simpl_Listed_impl_Listed N v0.mList) fun x1 =>
 bnd (g_slices_Clone_Simpl_Meaning_impl_Meaning N v0.mDict) fun x2 =>
 bnd (i_copyDraft N v0.mDesk) fun x3 =>
 bnd (α := (List (Gx.Issue))) (
  loopN (i_copyHouse_L1 N v0) N ([], 0)) fun t6 =>
 bnd (g_slices_Clone_Simpl_Used_impl_Used N v0.mUses) fun x7 =>
 bnd (i_copyCorrections N v0.mCorrections) fun x8 =>
 bnd (g_slices_Clone_Simpl_Entry_impl_Entry N v0.mEntries) fun x9 =>
 some (⟨x1, x2, (⟨(⟨x3.mGrid.mRows, x3.mGrid.mCols, x3.mGrid.mCells⟩ : Gx.Grid), x3.mFill, x3.mClues, x3.mVersion⟩ : Gx.Draft), t6, x7, x8, x9, v0.mNow⟩ : Gx.House)
def i_listedAt_1 (N : Nat) (v0 : Gx.Listed) (c0 : List UInt8) : Option (Bool) :=
 some (v0.mWord == c0)
def g_slices_IndexFunc_Simpl_Listed_impl_Listed_L1 (N : Nat) (v0 : List (Gx.Listed)) (v1 : (Gx.Listed) → Option Bool) (p1 : Int) : Option (Sum (Int) (Cut (Unit) (Int))) :=
 sel (decide (p1 < (v0.length : Int)))
  (bnd (getI v0 p1) fun x1 =>
  bnd (v1 x1) fun x2 =>
  sel (x2)
   (some (.inr (.rt (p1))))
   (some (.inl (w64 (p1 + 1)))))
  (some (.inr (.nx ())))
def g_slices_IndexFunc_Simpl_Listed_impl_Listed (N : Nat) (v0 : List (Gx.Listed)) (v1 : (Gx.Listed) → Option Bool) : Option (Int) :=
 cutb (α := Unit) (
  loopN (g_slices_IndexFunc_Simpl_Listed_impl_Listed_L1 N v0 v1) N 0) fun t3 =>
 some (-1)
def i_listedAt (N : Nat) (v0 : List (Gx.Listed)) (v1 : List UInt8) : Option (Int) :=
 bnd (g_slices_IndexFunc_Simpl_Listed_impl_Listed N v0 (fun a0 => i_listedAt_1 N a0 v1)) fun x1 =>
 some x1
def i_BeforeWord (N : Nat) (v0 : List UInt8) (v1 : List UInt8) : Option (Bool) :=
 sel ((v0.length : Int) != (v1.length : Int))
  (some (decide ((v0.length : Int) < (v1.length : Int))))
  (some (Op.bytesLess v0 v1))
def i_InRange (N : Nat) (v0 : Int) (v1 : Int) (v2 : Int) : Option (Bool) :=
 sel (decide (v1 ≤ v0))
  (some (decide (v0 ≤ v2)))
  (some false)
def i_isLetter (N : Nat) (v0 : Int) : Option (Bool) :=
 sel (decide (v0 ≥ 97))
  (some (decide (v0 ≤ 122)))
  (some false)
def i_IsWord_L1 (N : Nat) (v0 : List UInt8) (p1 : Int) : Option (Sum (Int) (Cut (Unit) (Bool))) :=
 sel (decide (p1 < (v0.length : Int)))
  (chk (0 ≤ p1 ∧ p1 < (v0.length : Int)) <|
  bnd (i_isLetter N (byteI v0 p1)) fun x2 =>
  sel (!x2)
   (some (.inr (.rt (false))))
   (some (.inl (w64 (p1 + 1)))))
  (some (.inr (.nx ())))
def i_IsWord (N : Nat) (v0 : List UInt8) : Option (Bool) :=
 bnd (i_InRange N (v0.length : Int) 1 8) fun x1 =>
 sel (!x1)
  (some false)
  (cutb (α := Unit) (
   loopN (i_IsWord_L1 N v0) N 0) fun t3 =>
  some true)
def i_IsList_L1 (N : Nat) (v0 : List (Gx.Listed)) (p1 : Int) : Option (Sum (Int) (Cut (Unit) (Bool))) :=
 sel (decide (p1 < (v0.length : Int)))
  (bnd (getI v0 p1) fun x1 =>
  sel (decide (p1 > 0))
   (bnd (getI v0 (w64 (p1 - 1))) fun x2 =>
   bnd (i_BeforeWord N x2.mWord x1.mWord) fun x3 =>
   sel (!x3)
    (some (.inr (.rt (false))))
    (bnd (i_IsWord N x1.mWord) fun x4 =>
    sel (!x4)
     (some (.inr (.rt (false))))
     (bnd (i_InRange N x1.mFrom 0 x1.mUntil) fun x5 =>
     sel (!x5)
      (some (.inr (.rt (false))))
      (sel (decide (x1.mUntil > 1000))
       (some (.inr (.rt (false))))
       (bnd (i_InRange N x1.mScore 0 99) fun x6 =>
       sel (!x6)
        (some (.inr (.rt (false))))
        (some (.inl (w64 (p1 + 1)))))))))
   (bnd (i_IsWord N x1.mWord) fun x7 =>
   sel (!x7)
    (some (.inr (.rt (false))))
    (bnd (i_InRange N x1.mFrom 0 x1.mUntil) fun x8 =>
    sel (!x8)
     (some (.inr (.rt (false))))
     (sel (decide (x1.mUntil > 1000))
      (some (.inr (.rt (false))))
      (bnd (i_InRange N x1.mScore 0 99) fun x9 =>
      sel (!x9)
       (some (.inr (.rt (false))))
       (some (.inl (w64 (p1 + 1)))))))))
  (some (.inr (.nx ())))
def i_IsList (N : Nat) (v0 : List (Gx.Listed)) : Option (Bool) :=
 sel (decide ((v0.length : Int) > 40))
  (some false)
  (cutb (α := Unit) (
   loopN (i_IsList_L1 N v0) N 0) fun t10 =>
  some true)
def i_AddWord_L1 (N : Nat) (v0 : List (Gx.Listed)) (v1 : Gx.Listed) (p1 : Int) : Option (Sum (Int) (Int)) :=
 sel (decide (p1 < (v0.length : Int)))
  (bnd (getI v0 p1) fun x3 =>
  bnd (i_BeforeWord N x3.mWord v1.mWord) fun x4 =>
  sel (x4)
   (some (.inl (w64 (p1 + 1))))
   (some (.inr (p1))))
  (some (.inr (p1)))
def i_AddWord (N : Nat) (v0 : List (Gx.Listed)) (v1 : Gx.Listed) : Option ((List (Gx.Listed)) × Bool) :=
 bnd (i_listedAt N v0 v1.mWord) fun x1 =>
 sel (decide (x1 ≥ 0))
  (bnd (g_slices_Clone_Simpl_Listed_impl_Listed N v0) fun x2 =>
  some (x2, false))
  (bnd (α := Int) (
   loopN (i_AddWord_L1 N v0 v1) N 0) fun t5 =>
  bnd (g_slices_Clone_Simpl_Listed_impl_Listed N v0) fun x6 =>
  bnd (g_slices_Insert_Simpl_Listed_impl_Listed N x6 t5 ([v1])) fun x7 =>
  bnd (i_IsList N x7) fun x8 =>
  sel (!x8)
   (bnd (g_slices_Clone_Simpl_Listed_impl_Listed N v0) fun x9 =>
   some (x9, false))
   (some (x7, true)))
def g_slices_Index_Simpl_Meaning_impl_Meaning_L1 (N : Nat) (v0 : List (Gx.Meaning)) (v1 : Gx.Meaning) (p1 : Int) : Option (Sum (Int) (Cut (Unit) (Int))) :=
 sel (decide (p1 < (v0.length : Int)))
  (bnd (getI v0 p1) fun x1 =>
  sel ((v1.mWord == x1.mWord && (v1.mSense == x1.mSense && true)))
   (some (.inr (.rt (p1))))
   (some (.inl (w64 (p1 + 1)))))
  (some (.inr (.nx ())))
def g_slices_Index_Simpl_Meaning_impl_Meaning (N : Nat) (v0 : List (Gx.Meaning)) (v1 : Gx.Meaning) : Option (Int) :=
 cutb (α := Unit) (
  loopN (g_slices_Index_Simpl_Meaning_impl_Meaning_L1 N v0 v1) N 0) fun t2 =>
 some (-1)
def g_slices_Contains_Simpl_Meaning_impl_Meaning (N : Nat) (v0 : List (Gx.Meaning)) (v1 : Gx.Meaning) : Option (Bool) :=
 bnd (g_slices_Index_Simpl_Meaning_impl_Meaning N v0 v1) fun x1 =>
 some (decide (x1 ≥ 0))
def i_beforeMeaning (N : Nat) (v0 : Gx.Meaning) (v1 : Gx.Meaning) : Option (Bool) :=
 sel (v0.mWord != v1.mWord)
  (bnd (i_BeforeWord N v0.mWord v1.mWord) fun x1 =>
  some x1)
  (some (decide (v0.mSense < v1.mSense)))
def i_IsDictionary_L1 (N : Nat) (v0 : List (Gx.Meaning)) (p1 : Int) : Option (Sum (Int) (Cut (Unit) (Bool))) :=
 sel (decide (p1 < (v0.length : Int)))
  (bnd (getI v0 p1) fun x1 =>
  sel (decide (p1 > 0))
   (bnd (getI v0 (w64 (p1 - 1))) fun x2 =>
   bnd (i_beforeMeaning N x2 x1) fun x3 =>
   sel (!x3)
    (some (.inr (.rt (false))))
    (bnd (i_IsWord N x1.mWord) fun x4 =>
    sel (!x4)
     (some (.inr (.rt (false))))
     (bnd (i_InRange N x1.mSense 1 99) fun x5 =>
     sel (!x5)
      (some (.inr (.rt (false))))
      (some (.inl (w64 (p1 + 1)))))))
   (bnd (i_IsWord N x1.mWord) fun x6 =>
   sel (!x6)
    (some (.inr (.rt (false))))
    (bnd (i_InRange N x1.mSense 1 99) fun x7 =>
    sel (!x7)
     (some (.inr (.rt (false))))
     (some (.inl (w64 (p1 + 1)))))))
  (some (.inr (.nx ())))
def i_IsDictionary (N : Nat) (v0 : List (Gx.Meaning)) : Option (Bool) :=
 sel (decide ((v0.length : Int) > 40))
  (some false)
  (cutb (α := Unit) (
   loopN (i_IsDictionary_L1 N v0) N 0) fun t8 =>
  some true)
def i_AddMeaning_L1 (N : Nat) (v0 : List (Gx.Meaning)) (v1 : Gx.Meaning) (p1 : Int) : Option (Sum (Int) (Int)) :=
 sel (decide (p1 < (v0.length : Int)))
  (bnd (getI v0 p1) fun x3 =>
  bnd (i_beforeMeaning N x3 v1) fun x4 =>
  sel (x4)
   (some (.inl (w64 (p1 + 1))))
   (some (.inr (p1))))
  (some (.inr (p1)))
def i_AddMeaning (N : Nat) (v0 : List (Gx.Meaning)) (v1 : Gx.Meaning) : Option ((List (Gx.Meaning)) × Bool) :=
 bnd (g_slices_Contains_Simpl_Meaning_impl_Meaning N v0 v1) fun x1 =>
 sel (x1)
  (bnd (g_slices_Clone_Simpl_Meaning_impl_Meaning N v0) fun x2 =>
  some (x2, false))
  (bnd (α := Int) (
   loopN (i_AddMeaning_L1 N v0 v1) N 0) fun t5 =>
  bnd (g_slices_Clone_Simpl_Meaning_impl_Meaning N v0) fun x6 =>
  bnd (g_slices_Insert_Simpl_Meaning_impl_Meaning N x6 t5 ([v1])) fun x7 =>
  bnd (i_IsDictionary N x7) fun x8 =>
  sel (!x8)
   (bnd (g_slices_Clone_Simpl_Meaning_impl_Meaning N v0) fun x9 =>
   some (x9, false))
   (some (x7, true)))
def i_StepWord (N : Nat) (v0 : Gx.House) (v1 : Gx.Listed) (v2 : Gx.Meaning) : Option (Gx.House × Bool) :=
 bnd (i_copyHouse N v0) fun x1 =>
 bnd (i_AddWord N v0.mList v1) fun x2 =>
 bnd (i_AddMeaning N v0.mDict v2) fun x3 =>
 sel (x2.2)
  (some ((⟨x2.1, x3.1, (⟨(⟨x1.mDesk.mGrid.mRows, x1.mDesk.mGrid.mCols, x1.mDesk.mGrid.mCells⟩ : Gx.Grid), x1.mDesk.mFill, x1.mDesk.mClues, x1.mDesk.mVersion⟩ : Gx.Draft), x1.mIssues, x1.mUses, x1.mCorrections, x1.mEntries, x1.mNow⟩ : Gx.House), true))
  (some ((⟨x2.1, x3.1, (⟨(⟨x1.mDesk.mGrid.mRows, x1.mDesk.mGrid.mCols, x1.mDesk.mGrid.mCells⟩ : Gx.Grid), x1.mDesk.mFill, x1.mDesk.mClues, x1.mDesk.mVersion⟩ : Gx.Draft), x1.mIssues, x1.mUses, x1.mCorrections, x1.mEntries, x1.mNow⟩ : Gx.House), x3.2))
def l_eqListed (N : Nat) (v0 : Gx.Listed) (v1 : Gx.Listed) : Option (Bool) :=
 sel (v0.mWord != v1.mWord)
  (some false)
  (sel (v0.mFrom != v1.mFrom)
   (some false)
   (sel (v0.mUntil != v1.mUntil)
    (some false)
    (sel (v0.mScore != v1.mScore)
     (some false)
     (some true))))
def l_eqListedS_L1 (N : Nat) (v0 : List (Gx.Listed)) (v1 : List (Gx.Listed)) (p1 : Int) : Option (Sum (Int) (Cut (Unit) (Bool))) :=
 sel (decide (p1 < (v0.length : Int)))
  (bnd (getI v0 p1) fun x1 =>
  bnd (getI v1 p1) fun x2 =>
  bnd (l_eqListed N x1 x2) fun x3 =>
  sel (!x3)
   (some (.inr (.rt (false))))
   (some (.inl (w64 (p1 + 1)))))
  (some (.inr (.nx ())))
def l_eqListedS (N : Nat) (v0 : List (Gx.Listed)) (v1 : List (Gx.Listed)) : Option (Bool) :=
 sel ((v0.length : Int) != (v1.length : Int))
  (some false)
  (cutb (α := Unit) (
   loopN (l_eqListedS_L1 N v0 v1) N 0) fun t4 =>
  some true)
def l_eqMeaning (N : Nat) (v0 : Gx.Meaning) (v1 : Gx.Meaning) : Option (Bool) :=
 sel (v0.mWord != v1.mWord)
  (some false)
  (sel (v0.mSense != v1.mSense)
   (some false)
   (some true))
def l_eqMeaningS_L1 (N : Nat) (v0 : List (Gx.Meaning)) (v1 : List (Gx.Meaning)) (p1 : Int) : Option (Sum (Int) (Cut (Unit) (Bool))) :=
 sel (decide (p1 < (v0.length : Int)))
  (bnd (getI v0 p1) fun x1 =>
  bnd (getI v1 p1) fun x2 =>
  bnd (l_eqMeaning N x1 x2) fun x3 =>
  sel (!x3)
   (some (.inr (.rt (false))))
   (some (.inl (w64 (p1 + 1)))))
  (some (.inr (.nx ())))
def l_eqMeaningS (N : Nat) (v0 : List (Gx.Meaning)) (v1 : List (Gx.Meaning)) : Option (Bool) :=
 sel ((v0.length : Int) != (v1.length : Int))
  (some false)
  (cutb (α := Unit) (
   loopN (l_eqMeaningS_L1 N v0 v1) N 0) fun t4 =>
  some true)
def l_eqGrid (N : Nat) (v0 : Gx.Grid) (v1 : Gx.Grid) : Option (Bool) :=
 sel (v0.mRows != v1.mRows)
  (some false)
  (sel (v0.mCols != v1.mCols)
   (some false)
   (sel (v0.mCells != v1.mCells)
    (some false)
    (some true)))
def l_eqStep (N : Nat) (v0 : Gx.Step) (v1 : Gx.Step) : Option (Bool) :=
 sel (v0.mKind != v1.mKind)
  (some false)
  (sel (v0.mWord != v1.mWord)
   (some false)
   (sel (v0.mA != v1.mA)
    (some false)
    (sel (v0.mB != v1.mB)
     (some false)
     (some true))))
def l_eqStepS_L1 (N : Nat) (v0 : List (Gx.Step)) (v1 : List (Gx.Step)) (p1 : Int) : Option (Sum (Int) (Cut (Unit) (Bool))) :=
 sel (decide (p1 < (v0.length : Int)))
  (bnd (getI v0 p1) fun x1 =>
  bnd (getI v1 p1) fun x2 =>
  bnd (l_eqStep N x1 x2) fun x3 =>
  sel (!x3)
   (some (.inr (.rt (false))))
   (some (.inl (w64 (p1 + 1)))))
  (some (.inr (.nx ())))
def l_eqStepS (N : Nat) (v0 : List (Gx.Step)) (v1 : List (Gx.Step)) : Option (Bool) :=
 sel ((v0.length : Int) != (v1.length : Int))
  (some false)
  (cutb (α := Unit) (
   loopN (l_eqStepS_L1 N v0 v1) N 0) fun t4 =>
  some true)
def l_eqClue (N : Nat) (v0 : Gx.Clue) (v1 : Gx.Clue) : Option (Bool) :=
 sel (v0.mSense != v1.mSense)
  (some false)
  (bnd (l_eqStepS N v0.mPlay v1.mPlay) fun x1 =>
  sel (!x1)
   (some false)
   (some true))
def l_eqClueS_L1 (N : Nat) (v0 : List (Gx.Clue)) (v1 : List (Gx.Clue)) (p1 : Int) : Option (Sum (Int) (Cut (Unit) (Bool))) :=
 sel (decide (p1 < (v0.length : Int)))
  (bnd (getI v0 p1) fun x1 =>
  bnd (getI v1 p1) fun x2 =>
  bnd (l_eqClue N x1 x2) fun x3 =>
  sel (!x3)
   (some (.inr (.rt (false))))
   (some (.inl (w64 (p1 + 1)))))
  (some (.inr (.nx ())))
def l_eqClueS (N : Nat) (v0 : List (Gx.Clue)) (v1 : List (Gx.Clue)) : Option (Bool) :=
 sel ((v0.length : Int) != (v1.length : Int))
  (some false)
  (cutb (α := Unit) (
   loopN (l_eqClueS_L1 N v0 v1) N 0) fun t4 =>
  some true)
def l_eqDraft (N : Nat) (v0 : Gx.Draft) (v1 : Gx.Draft) : Option (Bool) :=
 bnd (l_eqGrid N v0.mGrid v1.mGrid) fun x1 =>
 sel (!x1)
  (some false)
  (sel (v0.mFill != v1.mFill)
   (some false)
   (bnd (l_eqClueS N v0.mClues v1.mClues) fun x2 =>
   sel (!x2)
    (some false)
    (sel (v0.mVersion != v1.mVersion)
     (some false)
     (some true))))
def l_eqIntS_L1 (N : Nat) (v0 : List (Int)) (v1 : List (Int)) (p1 : Int) : Option (Sum (Int) (Cut (Unit) (Bool))) :=
 sel (decide (p1 < (v0.length : Int)))
  (bnd (getI v0 p1) fun x1 =>
  bnd (getI v1 p1) fun x2 =>
  sel (x1 != x2)
   (some (.inr (.rt (false))))
   (some (.inl (w64 (p1 + 1)))))
  (some (.inr (.nx ())))
def l_eqIntS (N : Nat) (v0 : List (Int)) (v1 : List (Int)) : Option (Bool) :=
 sel ((v0.length : Int) != (v1.length : Int))
  (some false)
  (cutb (α := Unit) (
   loopN (l_eqIntS_L1 N v0 v1) N 0) fun t3 =>
  some true)
def l_eqPuzzle (N : Nat) (v0 : Gx.Puzzle) (v1 : Gx.Puzzle) : Option (Bool) :=
 bnd (l_eqGrid N v0.mGrid v1.mGrid) fun x1 =>
 sel (!x1)
  (some false)
  (bnd (l_eqClueS N v0.mClues v1.mClues) fun x2 =>
  sel (!x2)
   (some false)
   (bnd (l_eqIntS N v0.mSeals v1.mSeals) fun x3 =>
   sel (!x3)
    (some false)
    (sel (v0.mSalt != v1.mSalt)
     (some false)
     (some true))))
def l_eqIssue (N : Nat) (v0 : Gx.Issue) (v1 : Gx.Issue) : Option (Bool) :=
 sel (v0.mNumber != v1.mNumber)
  (some false)
  (bnd (l_eqPuzzle N v0.mPuzzle v1.mPuzzle) fun x1 =>
  sel (!x1)
   (some false)
   (sel (v0.mFill != v1.mFill)
    (some false)
    (sel (v0.mOpen != v1.mOpen)
     (some false)
     (sel (v0.mClose != v1.mClose)
      (some false)
      (some true)))))
def l_eqIssueS_L1 (N : Nat) (v0 : List (Gx.Issue)) (v1 : List (Gx.Issue)) (p1 : Int) : Option (Sum (Int) (Cut (Unit) (Bool))) :=
 sel (decide (p1 < (v0.length : Int)))
  (bnd (getI v0 p1) fun x1 =>
  bnd (getI v1 p1) fun x2 =>
  bnd (l_eqIssue N x1 x2) fun x3 =>
  sel (!x3)
   (some (.inr (.rt (false))))
   (some (.inl (w64 (p1 + 1)))))
  (some (.inr (.nx ())))
def l_eqIssueS (N : Nat) (v0 : List (Gx.Issue)) (v1 : List (Gx.Issue)) : Option (Bool) :=
 sel ((v0.length : Int) != (v1.length : Int))
  (some false)
  (cutb (α := Unit) (
   loopN (l_eqIssueS_L1 N v0 v1) N 0) fun t4 =>
  some true)
def l_eqUsed (N : Nat) (v0 : Gx.Used) (v1 : Gx.Used) : Option (Bool) :=
 sel (v0.mWord != v1.mWord)
  (some false)
  (sel (v0.mIssue != v1.mIssue)
   (some false)
   (some true))
def l_eqUsedS_L1 (N : Nat) (v0 : List (Gx.Used)) (v1 : List (Gx.Used)) (p1 : Int) : Option (Sum (Int) (Cut (Unit) (Bool))) :=
 sel (decide (p1 < (v0.length : Int)))
  (bnd (getI v0 p1) fun x1 =>
  bnd (getI v1 p1) fun x2 =>
  bnd (l_eqUsed N x1 x2) fun x3 =>
  sel (!x3)
   (some (.inr (.rt (false))))
   (some (.inl (w64 (p1 + 1)))))
  (some (.inr (.nx ())))
def l_eqUsedS (N : Nat) (v0 : List (Gx.Used)) (v1 : List (Gx.Used)) : Option (Bool) :=
 sel ((v0.length : Int) != (v1.length : Int))
  (some false)
  (cutb (α := Unit) (
   loopN (l_eqUsedS_L1 N v0 v1) N 0) fun t4 =>
  some true)
def l_eqCorrection (N : Nat) (v0 : Gx.Correction) (v1 : Gx.Correction) : Option (Bool) :=
 sel (v0.mIssue != v1.mIssue)
  (some false)
  (sel (v0.mSlot != v1.mSlot)
   (some false)
   (bnd (l_eqClue N v0.mClue v1.mClue) fun x1 =>
   sel (!x1)
    (some false)
    (sel (v0.mTick != v1.mTick)
     (some false)
     (some true))))
def l_eqCorrectionS_L1 (N : Nat) (v0 : List (Gx.Correction)) (v1 : List (Gx.Correction)) (p1 : Int) : Option (Sum (Int) (Cut (Unit) (Bool))) :=
 sel (decide (p1 < (v0.length : Int)))
  (bnd (getI v0 p1) fun x1 =>
  bnd (getI v1 p1) fun x2 =>
  bnd (l_eqCorrection N x1 x2) fun x3 =>
  sel (!x3)
   (some (.inr (.rt (false))))
   (some (.inl (w64 (p1 + 1)))))
  (some (.inr (.nx ())))
def l_eqCorrectionS (N : Nat) (v0 : List (Gx.Correction)) (v1 : List (Gx.Correction)) : Option (Bool) :=
 sel ((v0.length : Int) != (v1.length : Int))
  (some false)
  (cutb (α := Unit) (
   loopN (l_eqCorrectionS_L1 N v0 v1) N 0) fun t4 =>
  some true)
def l_eqEntry (N : Nat) (v0 : Gx.Entry) (v1 : Gx.Entry) : Option (Bool) :=
 sel (v0.mPlayer != v1.mPlayer)
  (some false)
  (sel (v0.mIssue != v1.mIssue)
   (some false)
   (sel (v0.mTick != v1.mTick)
    (some false)
    (sel (v0.mFill != v1.mFill)
     (some false)
     (some true))))
def l_eqEntryS_L1 (N : Nat) (v0 : List (Gx.Entry)) (v1 : List (Gx.Entry)) (p1 : Int) : Option (Sum (Int) (Cut (Unit) (Bool))) :=
 sel (decide (p1 < (v0.length : Int)))
  (bnd (getI v0 p1) fun x1 =>
  bnd (getI v1 p1) fun x2 =>
  bnd (l_eqEntry N x1 x2) fun x3 =>
  sel (!x3)
   (some (.inr (.rt (false))))
   (some (.inl (w64 (p1 + 1)))))
  (some (.inr (.nx ())))
def l_eqEntryS (N : Nat) (v0 : List (Gx.Entry)) (v1 : List (Gx.Entry)) : Option (Bool) :=
 sel ((v0.length : Int) != (v1.length : Int))
  (some false)
  (cutb (α := Unit) (
   loopN (l_eqEntryS_L1 N v0 v1) N 0) fun t4 =>
  some true)
def l_eqHouse (N : Nat) (v0 : Gx.House) (v1 : Gx.House) : Option (Bool) :=
 bnd (l_eqListedS N v0.mList v1.mList) fun x1 =>
 sel (!x1)
  (some false)
  (bnd (l_eqMeaningS N v0.mDict v1.mDict) fun x2 =>
  sel (!x2)
   (some false)
   (bnd (l_eqDraft N v0.mDesk v1.mDesk) fun x3 =>
   sel (!x3)
    (some false)
    (bnd (l_eqIssueS N v0.mIssues v1.mIssues) fun x4 =>
    sel (!x4)
     (some false)
     (bnd (l_eqUsedS N v0.mUses v1.mUses) fun x5 =>
     sel (!x5)
      (some false)
      (bnd (l_eqCorrectionS N v0.mCorrections v1.mCorrections) fun x6 =>
      sel (!x6)
       (some false)
       (bnd (l_eqEntryS N v0.mEntries v1.mEntries) fun x7 =>
       sel (!x7)
        (some false)
        (sel (v0.mNow != v1.mNow)
         (some false)
         (some true))))))))
def l_markText_L1 (N : Nat) (p1 : Int × (List UInt8)) : Option (Sum (Int × (List UInt8)) ((List UInt8))) :=
 sel (decide (p1.1 > 0))
  (chk ((10 : Int) ≠ 0) <|
  chk (([UInt8.ofInt (IntKind.u8.wrap (w64 (48 + (Int.tmod p1.1 10))))]).length + p1.2.length ≤ 274877906944) <|
  chk ((10 : Int) ≠ 0) <|
  some (.inl (w64 (Int.tdiv p1.1 10), ([UInt8.ofInt (IntKind.u8.wrap (w64 (48 + (Int.tmod p1.1 10))))]) ++ p1.2)))
  (some (.inr (p1.2)))
def l_markText (N : Nat) (v0 : Int) : Option ((List UInt8)) :=
 sel (decide (v0 ≤ 0))
  (some ([109, 48] : List UInt8))
  (bnd (α := (List UInt8)) (
   loopN (l_markText_L1 N) N (v0, ([] : List UInt8))) fun t1 =>
  chk (([109] : List UInt8).length + t1.length ≤ 274877906944) <|
  some (([109] : List UInt8) ++ t1))
def l_markListedS_L1 (N : Nat) (p1 : (List (Gx.Listed)) × Int × Int) : Option (Sum ((List (Gx.Listed)) × Int × Int) ((List (Gx.Listed)) × Int)) :=
 sel (decide (p1.2.2 < (p1.1.length : Int)))
  (bnd (l_markText N p1.2.1) fun x1 =>
  bnd (getI p1.1 p1.2.2) fun x2 =>
  bnd (getI (List.set p1.1 (Int.toNat p1.2.2) (⟨x1, x2.mFrom, x2.mUntil, x2.mScore⟩ : Gx.Listed)) p1.2.2) fun x3 =>
  bnd (getI (List.set p1.1 (Int.toNat p1.2.2) (⟨x3.mWord, w64 (p1.2.1 + 1), x3.mUntil, x3.mScore⟩ : Gx.Listed)) p1.2.2) fun x4 =>
  bnd (getI (List.set p1.1 (Int.toNat p1.2.2) (⟨x4.mWord, x4.mFrom, w64 ((w64 (p1.2.1 + 1)) + 1), x4.mScore⟩ : Gx.Listed)) p1.2.2) fun x5 =>
  some (.inl (List.set p1.1 (Int.toNat p1.2.2) (⟨x5.mWord, x5.mFrom, x5.mUntil, w64 ((w64 ((w64 (p1.2.1 + 1)) + 1)) + 1)⟩ : Gx.Listed), w64 ((w64 ((w64 ((w64 (p1.2.1 + 1)) + 1)) + 1)) + 1), w64 (p1.2.2 + 1))))
  (some (.inr ((p1.1, p1.2.1))))
def l_markListedS (N : Nat) (v0 : List (Gx.Listed)) (v1 : Int) : Option ((List (Gx.Listed)) × Int) :=
 bnd (α := (List (Gx.Listed)) × Int) (
  loopN (l_markListedS_L1 N) N (v0, v1, 0)) fun t6 =>
 some (t6.1, t6.2)
def l_markMeaningS_L1 (N : Nat) (p1 : (List (Gx.Meaning)) × Int × Int) : Option (Sum ((List (Gx.Meaning)) × Int × Int) ((List (Gx.Meaning)) × Int)) :=
 sel (decide (p1.2.2 < (p1.1.length : Int)))
  (bnd (l_markText N p1.2.1) fun x1 =>
  bnd (getI p1.1 p1.2.2) fun x2 =>
  bnd (getI (List.set p1.1 (Int.toNat p1.2.2) (⟨x1, x2.mSense⟩ : Gx.Meaning)) p1.2.2) fun x3 =>
  some (.inl (List.set p1.1 (Int.toNat p1.2.2) (⟨x3.mWord, w64 (p1.2.1 + 1)⟩ : Gx.Meaning), w64 ((w64 (p1.2.1 + 1)) + 1), w64 (p1.2.2 + 1))))
  (some (.inr ((p1.1, p1.2.1))))
def l_markMeaningS (N : Nat) (v0 : List (Gx.Meaning)) (v1 : Int) : Option ((List (Gx.Meaning)) × Int) :=
 bnd (α := (List (Gx.Meaning)) × Int) (
  loopN (l_markMeaningS_L1 N) N (v0, v1, 0)) fun t4 =>
 some (t4.1, t4.2)
def l_markStepS_L1 (N : Nat) (p1 : (List (Gx.Step)) × Int × Int) : Option (Sum ((List (Gx.Step)) × Int × Int) ((List (Gx.Step)) × Int)) :=
 sel (decide (p1.2.2 < (p1.1.length : Int)))
  (bnd (getI p1.1 p1.2.2) fun x1 =>
  bnd (l_markText N (w64 (p1.2.1 + 1))) fun x2 =>
  bnd (getI (List.set p1.1 (Int.toNat p1.2.2) (⟨p1.2.1, x1.mWord, x1.mA, x1.mB⟩ : Gx.Step)) p1.2.2) fun x3 =>
  bnd (getI (List.set p1.1 (Int.toNat p1.2.2) (⟨x3.mKind, x2, x3.mA, x3.mB⟩ : Gx.Step)) p1.2.2) fun x4 =>
  bnd (getI (List.set p1.1 (Int.toNat p1.2.2) (⟨x4.mKind, x4.mWord, w64 ((w64 (p1.2.1 + 1)) + 1), x4.mB⟩ : Gx.Step)) p1.2.2) fun x5 =>
  some (.inl (List.set p1.1 (Int.toNat p1.2.2) (⟨x5.mKind, x5.mWord, x5.mA, w64 ((w64 ((w64 (p1.2.1 + 1)) + 1)) + 1)⟩ : Gx.Step), w64 ((w64 ((w64 ((w64 (p1.2.1 + 1)) + 1)) + 1)) + 1), w64 (p1.2.2 + 1))))
  (some (.inr ((p1.1, p1.2.1))))
def l_markStepS (N : Nat) (v0 : List (Gx.Step)) (v1 : Int) : Option ((List (Gx.Step)) × Int) :=
 bnd (α := (List (Gx.Step)) × Int) (
  loopN (l_markStepS_L1 N) N (v0, v1, 0)) fun t6 =>
 some (t6.1, t6.2)
def l_markClueS_L1 (N : Nat) (p1 : (List (Gx.Clue)) × Int × Int) : Option (Sum ((List (Gx.Clue)) × Int × Int) ((List (Gx.Clue)) × Int)) :=
 sel (decide (p1.2.2 < (p1.1.length : Int)))
  (bnd (getI p1.1 p1.2.2) fun x1 =>
  bnd (getI (List.set p1.1 (Int.toNat p1.2.2) (⟨p1.2.1, x1.mPlay⟩ : Gx.Clue)) p1.2.2) fun x2 =>
  bnd (l_markStepS N x2.mPlay (w64 (p1.2.1 + 1))) fun x3 =>
  some (.inl (List.set p1.1 (Int.toNat p1.2.2) (⟨x2.mSense, x3.1⟩ : Gx.Clue), x3.2, w64 (p1.2.2 + 1))))
  (some (.inr ((p1.1, p1.2.1))))
def l_markClueS (N : Nat) (v0 : List (Gx.Clue)) (v1 : Int) : Option ((List (Gx.Clue)) × Int) :=
 bnd (α := (List (Gx.Clue)) × Int) (
  loopN (l_markClueS_L1 N) N (v0, v1, 0)) fun t4 =>
 some (t4.1, t4.2)
def l_markDraft (N : Nat) (v0 : Gx.Draft) (v1 : Int) : Option ((List (Gx.Clue)) × Int) :=
 bnd (l_markClueS N v0.mClues v1) fun x1 =>
 some (x1.1, x1.2)
def l_markIntS_L1 (N : Nat) (p1 : (List (Int)) × Int × Int) : Option (Sum ((List (Int)) × Int × Int) ((List (Int)) × Int)) :=
 sel (decide (p1.2.2 < (p1.1.length : Int)))
  (bnd (getI p1.1 p1.2.2) fun x1 =>
  some (.inl (List.set p1.1 (Int.toNat p1.2.2) p1.2.1, w64 (p1.2.1 + 1), w64 (p1.2.2 + 1))))
  (some (.inr ((p1.1, p1.2.1))))
def l_markIntS (N : Nat) (v0 : List (Int)) (v1 : Int) : Option ((List (Int)) × Int) :=
 bnd (α := (List (Int)) × Int) (
  loopN (l_markIntS_L1 N) N (v0, v1, 0)) fun t2 =>
 some (t2.1, t2.2)
def l_markIssueS_L1 (N : Nat) (p1 : (List (Gx.Issue)) × Int × Int) : Option (Sum ((List (Gx.Issue)) × Int × Int) ((List (Gx.Issue)) × Int)) :=
 sel (decide (p1.2.2 < (p1.1.length : Int)))
  (bnd (getI p1.1 p1.2.2) fun x1 =>
  bnd (getI (List.set p1.1 (Int.toNat p1.2.2) (⟨p1.2.1, (⟨(⟨x1.mPuzzle.mGrid.mRows, x1.mPuzzle.mGrid.mCols, x1.mPuzzle.mGrid.mCells⟩ : Gx.Grid), x1.mPuzzle.mClues, x1.mPuzzle.mSeals, x1.mPuzzle.mSalt⟩ : Gx.Puzzle), x1.mFill, x1.mOpen, x1.mClose⟩ : Gx.Issue)) p1.2.2) fun x2 =>
  bnd (getI (List.set p1.1 (Int.toNat p1.2.2) (⟨x2.mNumber, (⟨(⟨w64 (p1.2.1 + 1), x2.mPuzzle.mGrid.mCols, x2.mPuzzle.mGrid.mCells⟩ : Gx.Grid), x2.mPuzzle.mClues, x2.mPuzzle.mSeals, x2.mPuzzle.mSalt⟩ : Gx.Puzzle), x2.mFill, x2.mOpen, x2.mClose⟩ : Gx.Issue)) p1.2.2) fun x3 =>
  bnd (l_markText N (w64 ((w64 ((w64 (p1.2.1 + 1)) + 1)) + 1))) fun x4 =>
  bnd (getI (List.set p1.1 (Int.toNat p1.2.2) (⟨x3.mNumber, (⟨(⟨x3.mPuzzle.mGrid.mRows, w64 ((w64 (p1.2.1 + 1)) + 1), x3.mPuzzle.mGrid.mCells⟩ : Gx.Grid), x3.mPuzzle.mClues, x3.mPuzzle.mSeals, x3.mPuzzle.mSalt⟩ : Gx.Puzzle), x3.mFill, x3.mOpen, x3.mClose⟩ : Gx.Issue)) p1.2.2) fun x5 =>
  bnd (getI (List.set p1.1 (Int.toNat p1.2.2) (⟨x5.mNumber, (⟨(⟨x5.mPuzzle.mGrid.mRows, x5.mPuzzle.mGrid.mCols, x4⟩ : Gx.Grid), x5.mPuzzle.mClues, x5.mPuzzle.mSeals, x5.mPuzzle.mSalt⟩ : Gx.Puzzle), x5.mFill, x5.mOpen, x5.mClose⟩ : Gx.Issue)) p1.2.2) fun x6 =>
  bnd (l_markClueS N x6.mPuzzle.mClues (w64 ((w64 ((w64 ((w64 (p1.2.1 + 1)) + 1)) + 1)) + 1))) fun x7 =>
  bnd (getI (List.set p1.1 (Int.toNat p1.2.2) (⟨x6.mNumber, (⟨(⟨x6.mPuzzle.mGrid.mRows, x6.mPuzzle.mGrid.mCols, x6.mPuzzle.mGrid.mCells⟩ : Gx.Grid), x7.1, x6.mPuzzle.mSeals, x6.mPuzzle.mSalt⟩ : Gx.Puzzle), x6.mFill, x6.mOpen, x6.mClose⟩ : Gx.Issue)) p1.2.2) fun x8 =>
  bnd (l_markIntS N x8.mPuzzle.mSeals x7.2) fun x9 =>
  bnd (getI (List.set p1.1 (Int.toNat p1.2.2) (⟨x8.mNumber, (⟨(⟨x8.mPuzzle.mGrid.mRows, x8.mPuzzle.mGrid.mCols, x8.mPuzzle.mGrid.mCells⟩ : Gx.Grid), x8.mPuzzle.mClues, x9.1, x8.mPuzzle.mSalt⟩ : Gx.Puzzle), x8.mFill, x8.mOpen, x8.mClose⟩ : Gx.Issue)) p1.2.2) fun x10 =>
  bnd (l_markText N (w64 (x9.2 + 1))) fun x11 =>
  bnd (getI (List.set p1.1 (Int.toNat p1.2.2) (⟨x10.mNumber, (⟨(⟨x10.mPuzzle.mGrid.mRows, x10.mPuzzle.mGrid.mCols, x10.mPuzzle.mGrid.mCells⟩ : Gx.Grid), x10.mPuzzle.mClues, x10.mPuzzle.mSeals, x9.2⟩ : Gx.Puzzle), x10.mFill, x10.mOpen, x10.mClose⟩ : Gx.Issue)) p1.2.2) fun x12 =>
  bnd (getI (List.set p1.1 (Int.toNat p1.2.2) (⟨x12.mNumber, (⟨(⟨x12.mPuzzle.mGrid.mRows, x12.mPuzzle.mGrid.mCols, x12.mPuzzle.mGrid.mCells⟩ : Gx.Grid), x12.mPuzzle.mClues, x12.mPuzzle.mSeals, x12.mPuzzle.mSalt⟩ : Gx.Puzzle), x11, x12.mOpen, x12.mClose⟩ : Gx.Issue)) p1.2.2) fun x13 =>
  bnd (getI (List.set p1.1 (Int.toNat p1.2.2) (⟨x13.mNumber, (⟨(⟨x13.mPuzzle.mGrid.mRows, x13.mPuzzle.mGrid.mCols, x13.mPuzzle.mGrid.mCells⟩ : Gx.Grid), x13.mPuzzle.mClues, x13.mPuzzle.mSeals, x13.mPuzzle.mSalt⟩ : Gx.Puzzle), x13.mFill, w64 ((w64 (x9.2 + 1)) + 1), x13.mClose⟩ : Gx.Issue)) p1.2.2) fun x14 =>
  some (.inl (List.set p1.1 (Int.toNat p1.2.2) (⟨x14.mNumber, (⟨(⟨x14.mPuzzle.mGrid.mRows, x14.mPuzzle.mGrid.mCols, x14.mPuzzle.mGrid.mCells⟩ : Gx.Grid), x14.mPuzzle.mClues, x14.mPuzzle.mSeals, x14.mPuzzle.mSalt⟩ : Gx.Puzzle), x14.mFill, x14.mOpen, w64 ((w64 ((w64 (x9.2 + 1)) + 1)) + 1)⟩ : Gx.Issue), w64 ((w64 ((w64 ((w64 (x9.2 + 1)) + 1)) + 1)) + 1), w64 (p1.2.2 + 1))))
  (some (.inr ((p1.1, p1.2.1))))
def l_markIssueS (N : Nat) (v0 : List (Gx.Issue)) (v1 : Int) : Option ((List (Gx.Issue)) × Int) :=
 bnd (α := (List (Gx.Issue)) × Int) (
  loopN (l_markIssueS_L1 N) N (v0, v1, 0)) fun t15 =>
 some (t15.1, t15.2)
def l_markUsedS_L1 (N : Nat) (p1 : (List (Gx.Used)) × Int × Int) : Option (Sum ((List (Gx.Used)) × Int × Int) ((List (Gx.Used)) × Int)) :=
 sel (decide (p1.2.2 < (p1.1.length : Int)))
  (bnd (l_markText N p1.2.1) fun x1 =>
  bnd (getI p1.1 p1.2.2) fun x2 =>
  bnd (getI (List.set p1.1 (Int.toNat p1.2.2) (⟨x1, x2.mIssue⟩ : Gx.Used)) p1.2.2) fun x3 =>
  some (.inl (List.set p1.1 (Int.toNat p1.2.2) (⟨x3.mWord, w64 (p1.2.1 + 1)⟩ : Gx.Used), w64 ((w64 (p1.2.1 + 1)) + 1), w64 (p1.2.2 + 1))))
  (some (.inr ((p1.1, p1.2.1))))
def l_markUsedS (N : Nat) (v0 : List (Gx.Used)) (v1 : Int) : Option ((List (Gx.Used)) × Int) :=
 bnd (α := (List (Gx.Used)) × Int) (
  loopN (l_markUsedS_L1 N) N (v0, v1, 0)) fun t4 =>
 some (t4.1, t4.2)
def l_markCorrectionS_L1 (N : Nat) (p1 : (List (Gx.Correction)) × Int × Int) : Option (Sum ((List (Gx.Correction)) × Int × Int) ((List (Gx.Correction)) × Int)) :=
 sel (decide (p1.2.2 < (p1.1.length : Int)))
  (bnd (getI p1.1 p1.2.2) fun x1 =>
  bnd (getI (List.set p1.1 (Int.toNat p1.2.2) (⟨p1.2.1, x1.mSlot, (⟨x1.mClue.mSense, x1.mClue.mPlay⟩ : Gx.Clue), x1.mTick⟩ : Gx.Correction)) p1.2.2) fun x2 =>
  bnd (getI (List.set p1.1 (Int.toNat p1.2.2) (⟨x2.mIssue, w64 (p1.2.1 + 1), (⟨x2.mClue.mSense, x2.mClue.mPlay⟩ : Gx.Clue), x2.mTick⟩ : Gx.Correction)) p1.2.2) fun x3 =>
  bnd (getI (List.set p1.1 (Int.toNat p1.2.2) (⟨x3.mIssue, x3.mSlot, (⟨w64 ((w64 (p1.2.1 + 1)) + 1), x3.mClue.mPlay⟩ : Gx.Clue), x3.mTick⟩ : Gx.Correction)) p1.2.2) fun x4 =>
  bnd (l_markStepS N x4.mClue.mPlay (w64 ((w64 ((w64 (p1.2.1 + 1)) + 1)) + 1))) fun x5 =>
  bnd (getI (List.set p1.1 (Int.toNat p1.2.2) (⟨x4.mIssue, x4.mSlot, (⟨x4.mClue.mSense, x5.1⟩ : Gx.Clue), x4.mTick⟩ : Gx.Correction)) p1.2.2) fun x6 =>
  some (.inl (List.set p1.1 (Int.toNat p1.2.2) (⟨x6.mIssue, x6.mSlot, (⟨x6.mClue.mSense, x6.mClue.mPlay⟩ : Gx.Clue), x5.2⟩ : Gx.Correction), w64 (x5.2 + 1), w64 (p1.2.2 + 1))))
  (some (.inr ((p1.1, p1.2.1))))
def l_markCorrectionS (N : Nat) (v0 : List (Gx.Correction)) (v1 : Int) : Option ((List (Gx.Correction)) × Int) :=
 bnd (α := (List (Gx.Correction)) × Int) (
  loopN (l_markCorrectionS_L1 N) N (v0, v1, 0)) fun t7 =>
 some (t7.1, t7.2)
def l_markEntryS_L1 (N : Nat) (p1 : (List (Gx.Entry)) × Int × Int) : Option (Sum ((List (Gx.Entry)) × Int × Int) ((List (Gx.Entry)) × Int)) :=
 sel (decide (p1.2.2 < (p1.1.length : Int)))
  (bnd (getI p1.1 p1.2.2) fun x1 =>
  bnd (getI (List.set p1.1 (Int.toNat p1.2.2) (⟨p1.2.1, x1.mIssue, x1.mTick, x1.mFill⟩ : Gx.Entry)) p1.2.2) fun x2 =>
  bnd (getI (List.set p1.1 (Int.toNat p1.2.2) (⟨x2.mPlayer, w64 (p1.2.1 + 1), x2.mTick, x2.mFill⟩ : Gx.Entry)) p1.2.2) fun x3 =>
  bnd (l_markText N (w64 ((w64 ((w64 (p1.2.1 + 1)) + 1)) + 1))) fun x4 =>
  bnd (getI (List.set p1.1 (Int.toNat p1.2.2) (⟨x3.mPlayer, x3.mIssue, w64 ((w64 (p1.2.1 + 1)) + 1), x3.mFill⟩ : Gx.Entry)) p1.2.2) fun x5 =>
  some (.inl (List.set p1.1 (Int.toNat p1.2.2) (⟨x5.mPlayer, x5.mIssue, x5.mTick, x4⟩ : Gx.Entry), w64 ((w64 ((w64 ((w64 (p1.2.1 + 1)) + 1)) + 1)) + 1), w64 (p1.2.2 + 1))))
  (some (.inr ((p1.1, p1.2.1))))
def l_markEntryS (N : Nat) (v0 : List (Gx.Entry)) (v1 : Int) : Option ((List (Gx.Entry)) × Int) :=
 bnd (α := (List (Gx.Entry)) × Int) (
  loopN (l_markEntryS_L1 N) N (v0, v1, 0)) fun t6 =>
 some (t6.1, t6.2)
def l_markHouse (N : Nat) (v0 : Gx.House) (v1 : Int) : Option ((List (Gx.Listed)) × (List (Gx.Meaning)) × (List (Gx.Clue)) × (List (Gx.Issue)) × (List (Gx.Used)) × (List (Gx.Correction)) × (List (Gx.Entry)) × Int) :=
 bnd (l_markListedS N v0.mList v1) fun x1 =>
 bnd (l_markMeaningS N v0.mDict x1.2) fun x2 =>
 bnd (l_markDraft N v0.mDesk x2.2) fun x3 =>
 bnd (l_markIssueS N v0.mIssues x3.2) fun x4 =>
 bnd (l_markUsedS N v0.mUses x4.2) fun x5 =>
 bnd (l_markCorrectionS N v0.mCorrections x5.2) fun x6 =>
 bnd (l_markEntryS N v0.mEntries x6.2) fun x7 =>
 some (x1.1, x2.1, x3.1, x4.1, x5.1, x6.1, x7.1, x7.2)
def l_heldListedS_L1 (N : Nat) (v0 : List (Gx.Listed)) (p1 : Int × Int) : Option (Sum (Int × Int) (Cut (Int) (Int))) :=
 sel (decide (p1.2 < (v0.length : Int)))
  (bnd (getI v0 p1.2) fun x1 =>
  bnd (l_markText N p1.1) fun x2 =>
  sel (x1.mWord != x2)
   (some (.inr (.rt ((-1)))))
   (bnd (getI v0 p1.2) fun x3 =>
   sel (x3.mFrom != (w64 (p1.1 + 1)))
    (some (.inr (.rt ((-1)))))
    (bnd (getI v0 p1.2) fun x4 =>
    sel (x4.mUntil != (w64 ((w64 (p1.1 + 1)) + 1)))
     (some (.inr (.rt ((-1)))))
     (bnd (getI v0 p1.2) fun x5 =>
     sel (x5.mScore != (w64 ((w64 ((w64 (p1.1 + 1)) + 1)) + 1)))
      (some (.inr (.rt ((-1)))))
      (some (.inl (w64 ((w64 ((w64 ((w64 (p1.1 + 1)) + 1)) + 1)) + 1), w64 (p1.2 + 1))))))))
  (some (.inr (.nx p1.1)))
def l_heldListedS (N : Nat) (v0 : List (Gx.Listed)) (v1 : Int) : Option (Int) :=
 cutb (α := Int) (
  loopN (l_heldListedS_L1 N v0) N (v1, 0)) fun t6 =>
 some t6
def l_heldMeaningS_L1 (N : Nat) (v0 : List (Gx.Meaning)) (p1 : Int × Int) : Option (Sum (Int × Int) (Cut (Int) (Int))) :=
 sel (decide (p1.2 < (v0.length : Int)))
  (bnd (getI v0 p1.2) fun x1 =>
  bnd (l_markText N p1.1) fun x2 =>
  sel (x1.mWord != x2)
   (some (.inr (.rt ((-1)))))
   (bnd (getI v0 p1.2) fun x3 =>
   sel (x3.mSense != (w64 (p1.1 + 1)))
    (some (.inr (.rt ((-1)))))
    (some (.inl (w64 ((w64 (p1.1 + 1)) + 1), w64 (p1.2 + 1))))))
  (some (.inr (.nx p1.1)))
def l_heldMeaningS (N : Nat) (v0 : List (Gx.Meaning)) (v1 : Int) : Option (Int) :=
 cutb (α := Int) (
  loopN (l_heldMeaningS_L1 N v0) N (v1, 0)) fun t4 =>
 some t4
def l_heldStepS_L1 (N : Nat) (v0 : List (Gx.Step)) (p1 : Int × Int) : Option (Sum (Int × Int) (Cut (Int) (Int))) :=
 sel (decide (p1.2 < (v0.length : Int)))
  (bnd (getI v0 p1.2) fun x1 =>
  sel (x1.mKind != p1.1)
   (some (.inr (.rt ((-1)))))
   (bnd (getI v0 p1.2) fun x2 =>
   bnd (l_markText N (w64 (p1.1 + 1))) fun x3 =>
   sel (x2.mWord != x3)
    (some (.inr (.rt ((-1)))))
    (bnd (getI v0 p1.2) fun x4 =>
    sel (x4.mA != (w64 ((w64 (p1.1 + 1)) + 1)))
     (some (.inr (.rt ((-1)))))
     (bnd (getI v0 p1.2) fun x5 =>
     sel (x5.mB != (w64 ((w64 ((w64 (p1.1 + 1)) + 1)) + 1)))
      (some (.inr (.rt ((-1)))))
      (some (.inl (w64 ((w64 ((w64 ((w64 (p1.1 + 1)) + 1)) + 1)) + 1), w64 (p1.2 + 1))))))))
  (some (.inr (.nx p1.1)))
def l_heldStepS (N : Nat) (v0 : List (Gx.Step)) (v1 : Int) : Option (Int) :=
 cutb (α := Int) (
  loopN (l_heldStepS_L1 N v0) N (v1, 0)) fun t6 =>
 some t6
def l_heldClueS_L1 (N : Nat) (v0 : List (Gx.Clue)) (p1 : Int × Int) : Option (Sum (Int × Int) (Cut (Int) (Int))) :=
 sel (decide (p1.2 < (v0.length : Int)))
  (bnd (getI v0 p1.2) fun x1 =>
  sel (x1.mSense != p1.1)
   (some (.inr (.rt ((-1)))))
   (bnd (getI v0 p1.2) fun x2 =>
   bnd (l_heldStepS N x2.mPlay (w64 (p1.1 + 1))) fun x3 =>
   sel (decide (x3 < 0))
    (some (.inr (.rt ((-1)))))
    (some (.inl (x3, w64 (p1.2 + 1))))))
  (some (.inr (.nx p1.1)))
def l_heldClueS (N : Nat) (v0 : List (Gx.Clue)) (v1 : Int) : Option (Int) :=
 cutb (α := Int) (
  loopN (l_heldClueS_L1 N v0) N (v1, 0)) fun t4 =>
 some t4
def l_heldDraft (N : Nat) (v0 : Gx.Draft) (v1 : Int) : Option (Int) :=
 bnd (l_heldClueS N v0.mClues v1) fun x1 =>
 sel (decide (x1 < 0))
  (some (-1))
  (some x1)
def l_heldIntS_L1 (N : Nat) (v0 : List (Int)) (p1 : Int × Int) : Option (Sum (Int × Int) (Cut (Int) (Int))) :=
 sel (decide (p1.2 < (v0.length : Int)))
  (bnd (getI v0 p1.2) fun x1 =>
  sel (x1 != p1.1)
   (some (.inr (.rt ((-1)))))
   (some (.inl (w64 (p1.1 + 1), w64 (p1.2 + 1)))))
  (some (.inr (.nx p1.1)))
def l_heldIntS (N : Nat) (v0 : List (Int)) (v1 : Int) : Option (Int) :=
 cutb (α := Int) (
  loopN (l_heldIntS_L1 N v0) N (v1, 0)) fun t2 =>
 some t2
def l_heldIssueS_L1 (N : Nat) (v0 : List (Gx.Issue)) (p1 : Int × Int) : Option (Sum (Int × Int) (Cut (Int) (Int))) :=
 sel (decide (p1.2 < (v0.length : Int)))
  (bnd (getI v0 p1.2) fun x1 =>
  sel (x1.mNumber != p1.1)
   (some (.inr (.rt ((-1)))))
   (bnd (getI v0 p1.2) fun x2 =>
   sel (x2.mPuzzle.mGrid.mRows != (w64 (p1.1 + 1)))
    (some (.inr (.rt ((-1)))))
    (bnd (getI v0 p1.2) fun x3 =>
    sel (x3.mPuzzle.mGrid.mCols != (w64 ((w64 (p1.1 + 1)) + 1)))
     (some (.inr (.rt ((-1)))))
     (bnd (getI v0 p1.2) fun x4 =>
     bnd (l_markText N (w64 ((w64 ((w64 (p1.1 + 1)) + 1)) + 1))) fun x5 =>
     sel (x4.mPuzzle.mGrid.mCells != x5)
      (some (.inr (.rt ((-1)))))
      (bnd (getI v0 p1.2) fun x6 =>
      bnd (l_heldClueS N x6.mPuzzle.mClues (w64 ((w64 ((w64 ((w64 (p1.1 + 1)) + 1)) + 1)) + 1))) fun x7 =>
      sel (decide (x7 < 0))
       (some (.inr (.rt ((-1)))))
       (bnd (getI v0 p1.2) fun x8 =>
       bnd (l_heldIntS N x8.mPuzzle.mSeals x7) fun x9 =>
       sel (decide (x9 < 0))
        (some (.inr (.rt ((-1)))))
        (bnd (getI v0 p1.2) fun x10 =>
        sel (x10.mPuzzle.mSalt != x9)
         (some (.inr (.rt ((-1)))))
         (bnd (getI v0 p1.2) fun x11 =>
         bnd (l_markText N (w64 (x9 + 1))) fun x12 =>
         sel (x11.mFill != x12)
          (some (.inr (.rt ((-1)))))
          (bnd (getI v0 p1.2) fun x13 =>
          sel (x13.mOpen != (w64 ((w64 (x9 + 1)) + 1)))
           (some (.inr (.rt ((-1)))))
           (bnd (getI v0 p1.2) fun x14 =>
           sel (x14.mClose != (w64 ((w64 ((w64 (x9 + 1)) + 1)) + 1)))
            (some (.inr (.rt ((-1)))))
            (some (.inl (w64 ((w64 ((w64 ((w64 (x9 + 1)) + 1)) + 1)) + 1), w64 (p1.2 + 1))))))))))))))
  (some (.inr (.nx p1.1)))
def l_heldIssueS (N : Nat) (v0 : List (Gx.Issue)) (v1 : Int) : Option (Int) :=
 cutb (α := Int) (
  loopN (l_heldIssueS_L1 N v0) N (v1, 0)) fun t15 =>
 some t15
def l_heldUsedS_L1 (N : Nat) (v0 : List (Gx.Used)) (p1 : Int × Int) : Option (Sum (Int × Int) (Cut (Int) (Int))) :=
 sel (decide (p1.2 < (v0.length : Int)))
  (bnd (getI v0 p1.2) fun x1 =>
  bnd (l_markText N p1.1) fun x2 =>
  sel (x1.mWord != x2)
   (some (.inr (.rt ((-1)))))
   (bnd (getI v0 p1.2) fun x3 =>
   sel (x3.mIssue != (w64 (p1.1 + 1)))
    (some (.inr (.rt ((-1)))))
    (some (.inl (w64 ((w64 (p1.1 + 1)) + 1), w64 (p1.2 + 1))))))
  (some (.inr (.nx p1.1)))
def l_heldUsedS (N : Nat) (v0 : List (Gx.Used)) (v1 : Int) : Option (Int) :=
 cutb (α := Int) (
  loopN (l_heldUsedS_L1 N v0) N (v1, 0)) fun t4 =>
 some t4
def l_heldCorrectionS_L1 (N : Nat) (v0 : List (Gx.Correction)) (p1 : Int × Int) : Option (Sum (Int × Int) (Cut (Int) (Int))) :=
 sel (decide (p1.2 < (v0.length : Int)))
  (bnd (getI v0 p1.2) fun x1 =>
  sel (x1.mIssue != p1.1)
   (some (.inr (.rt ((-1)))))
   (bnd (getI v0 p1.2) fun x2 =>
   sel (x2.mSlot != (w64 (p1.1 + 1)))
    (some (.inr (.rt ((-1)))))
    (bnd (getI v0 p1.2) fun x3 =>
    sel (x3.mClue.mSense != (w64 ((w64 (p1.1 + 1)) + 1)))
     (some (.inr (.rt ((-1)))))
     (bnd (getI v0 p1.2) fun x4 =>
     bnd (l_heldStepS N x4.mClue.mPlay (w64 ((w64 ((w64 (p1.1 + 1)) + 1)) + 1))) fun x5 =>
     sel (decide (x5 < 0))
      (some (.inr (.rt ((-1)))))
      (bnd (getI v0 p1.2) fun x6 =>
      sel (x6.mTick != x5)
       (some (.inr (.rt ((-1)))))
       (some (.inl (w64 (x5 + 1), w64 (p1.2 + 1)))))))))
  (some (.inr (.nx p1.1)))
def l_heldCorrectionS (N : Nat) (v0 : List (Gx.Correction)) (v1 : Int) : Option (Int) :=
 cutb (α := Int) (
  loopN (l_heldCorrectionS_L1 N v0) N (v1, 0)) fun t7 =>
 some t7
def l_heldEntryS_L1 (N : Nat) (v0 : List (Gx.Entry)) (p1 : Int × Int) : Option (Sum (Int × Int) (Cut (Int) (Int))) :=
 sel (decide (p1.2 < (v0.length : Int)))
  (bnd (getI v0 p1.2) fun x1 =>
  sel (x1.mPlayer != p1.1)
   (some (.inr (.rt ((-1)))))
   (bnd (getI v0 p1.2) fun x2 =>
   sel (x2.mIssue != (w64 (p1.1 + 1)))
    (some (.inr (.rt ((-1)))))
    (bnd (getI v0 p1.2) fun x3 =>
    sel (x3.mTick != (w64 ((w64 (p1.1 + 1)) + 1)))
     (some (.inr (.rt ((-1)))))
     (bnd (getI v0 p1.2) fun x4 =>
     bnd (l_markText N (w64 ((w64 ((w64 (p1.1 + 1)) + 1)) + 1))) fun x5 =>
     sel (x4.mFill != x5)
      (some (.inr (.rt ((-1)))))
      (some (.inl (w64 ((w64 ((w64 ((w64 (p1.1 + 1)) + 1)) + 1)) + 1), w64 (p1.2 + 1))))))))
  (some (.inr (.nx p1.1)))
def l_heldEntryS (N : Nat) (v0 : List (Gx.Entry)) (v1 : Int) : Option (Int) :=
 cutb (α := Int) (
  loopN (l_heldEntryS_L1 N v0) N (v1, 0)) fun t6 =>
 some t6
def l_heldHouse (N : Nat) (v0 : Gx.House) (v1 : Int) : Option (Int) :=
 bnd (l_heldListedS N v0.mList v1) fun x1 =>
 sel (decide (x1 < 0))
  (some (-1))
  (bnd (l_heldMeaningS N v0.mDict x1) fun x2 =>
  sel (decide (x2 < 0))
   (some (-1))
   (bnd (l_heldDraft N v0.mDesk x2) fun x3 =>
   sel (decide (x3 < 0))
    (some (-1))
    (bnd (l_heldIssueS N v0.mIssues x3) fun x4 =>
    sel (decide (x4 < 0))
     (some (-1))
     (bnd (l_heldUsedS N v0.mUses x4) fun x5 =>
     sel (decide (x5 < 0))
      (some (-1))
      (bnd (l_heldCorrectionS N v0.mCorrections x5) fun x6 =>
      sel (decide (x6 < 0))
       (some (-1))
       (bnd (l_heldEntryS N v0.mEntries x6) fun x7 =>
       sel (decide (x7 < 0))
        (some (-1))
        (some x7)))))))
def l_FnExactStepWord (N : Nat) (v0 : Gx.House) (v1 : Gx.Listed) (v2 : Gx.Meaning) : Option (Bool) :=
 bnd (l_szHouse N v0 1048576) fun x1 =>
 sel (decide (x1 < 0))
  (some true)
  (bnd (l_szListed N v1 x1) fun x2 =>
  sel (decide (x2 < 0))
   (some true)
   (bnd (l_szMeaning N v2 x2) fun x3 =>
   sel (decide (x3 < 0))
    (some true)
    (bnd (l_toHouse N v0) fun x4 =>
    bnd (l_toListed N v1) fun x5 =>
    bnd (l_toMeaning N v2) fun x6 =>
    bnd (s_StepWord N x4 x5 x6) fun x7 =>
    bnd (l_toHouse N v0) fun x8 =>
    bnd (l_toListed N v1) fun x9 =>
    bnd (l_toMeaning N v2) fun x10 =>
    bnd (i_StepWord N x8 x9 x10) fun x11 =>
    bnd (l_eqHouse N x11.1 x7.1) fun x12 =>
    sel (!x12)
     (some false)
     (sel (x11.2 != x7.2)
      (some false)
      (bnd (l_toHouse N v0) fun x13 =>
      bnd (l_eqHouse N x8 x13) fun x14 =>
      sel (!x14)
       (some false)
       (bnd (l_markHouse N x8 1) fun x15 =>
       sel (decide (x15.2.2.2.2.2.2.2 < 0))
        (some false)
        (bnd (l_eqHouse N x11.1 x7.1) fun x16 =>
        sel (!x16)
         (some false)
         (sel (x11.2 != x7.2)
          (some false)
          (bnd (l_markHouse N x11.1 1) fun x17 =>
          bnd (l_heldHouse N (⟨x17.1, x17.2.1, (⟨(⟨x11.1.mDesk.mGrid.mRows, x11.1.mDesk.mGrid.mCols, x11.1.mDesk.mGrid.mCells⟩ : Gx.Grid), x11.1.mDesk.mFill, x17.2.2.1, x11.1.mDesk.mVersion⟩ : Gx.Draft), x17.2.2.2.1, x17.2.2.2.2.1, x17.2.2.2.2.2.1, x17.2.2.2.2.2.2.1, x11.1.mNow⟩ : Gx.House) 1) fun x18 =>
          sel (decide (x18 < 0))
           (some false)
           (sel (x18 != x17.2.2.2.2.2.2.2)
            (some false)
            (bnd (l_toHouse N v0) fun x19 =>
            bnd (l_toListed N v1) fun x20 =>
            bnd (l_toMeaning N v2) fun x21 =>
            bnd (i_StepWord N x19 x20 x21) fun x22 =>
            bnd (l_eqHouse N x22.1 x7.1) fun x23 =>
            sel (!x23)
             (some false)
             (sel (x22.2 != x7.2)
              (some false)
              (bnd (l_heldHouse N (⟨x17.1, x17.2.1, (⟨(⟨x11.1.mDesk.mGrid.mRows, x11.1.mDesk.mGrid.mCols, x11.1.mDesk.mGrid.mCells⟩ : Gx.Grid), x11.1.mDesk.mFill, x17.2.2.1, x11.1.mDesk.mVersion⟩ : Gx.Draft), x17.2.2.2.1, x17.2.2.2.2.1, x17.2.2.2.2.2.1, x17.2.2.2.2.2.2.1, x11.1.mNow⟩ : Gx.House) 1) fun x24 =>
              sel (decide (x24 < 0))
               (some false)
               (sel (x24 != x17.2.2.2.2.2.2.2)
                (some false)
                (some true)))))))))))))))
end Lw
end Go.Proofs
