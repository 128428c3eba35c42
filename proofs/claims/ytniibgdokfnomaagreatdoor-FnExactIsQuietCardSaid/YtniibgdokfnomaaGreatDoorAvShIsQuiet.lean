/- PRINTED BY gen.py (mine): the functions that the law reaches, as plain functions. -/
import Derived.Test.YtniibgdokfnomaaGreatDoorAvLp
import Derived.Test.YtniibgdokfnomaaGreatDoorAvRa
namespace Go.Proofs
open Go Go.Av
set_option maxRecDepth 100000
set_option maxHeartbeats 40000000
set_option linter.unusedVariables false
set_option linter.unusedSimpArgs false
namespace Lw
def g_strings_ReplaceAll (N : Nat) (s old new : List UInt8) : Option (List UInt8) := chk (s.length ≤ 1048576 ∧ old.length = 1 ∧ new.length = 1) (some (Lib.replaceAll s old new))
def l_szListed (N : Nat) (v0 : Gx.Listed) (v1 : Int) : Option (Int) :=
 sel (decide ((w64 (v1 - (v0.mWord.length : Int))) < 0))
  (some (-1))
  (some (w64 (v1 - (v0.mWord.length : Int))))
def l_szListedS_L1 (N : Nat) (v0 : List (Gx.Listed)) (p1 : Int × Int) : Option (Sum (Int × Int) (Cut (Int) (Int))) :=
 sel (decide (p1.2 < (v0.length : Int)))
  (bnd (getI v0 p1.2) fun x1 =>
  bnd (l_szListed N x1 p1.1) fun x2 =>
  sel (decide (x2 < 0))
   (some (.inr (.rt ((-1)))))
   (some (.inl (x2, w64 (p1.2 + 1)))))
  (some (.inr (.nx p1.1)))
def l_szListedS (N : Nat) (v0 : List (Gx.Listed)) (v1 : Int) : Option (Int) :=
 sel (decide ((w64 (v1 - (v0.length : Int))) < 0))
  (some (-1))
  (cutb (α := Int) (
   loopN (l_szListedS_L1 N v0) N (w64 (v1 - (v0.length : Int)), 0)) fun t3 =>
  some t3)
def l_szMeaning (N : Nat) (v0 : Gx.Meaning) (v1 : Int) : Option (Int) :=
 sel (decide ((w64 (v1 - (v0.mWord.length : Int))) < 0))
  (some (-1))
  (some (w64 (v1 - (v0.mWord.length : Int))))
def l_szMeaningS_L1 (N : Nat) (v0 : List (Gx.Meaning)) (p1 : Int × Int) : Option (Sum (Int × Int) (Cut (Int) (Int))) :=
 sel (decide (p1.2 < (v0.length : Int)))
  (bnd (getI v0 p1.2) fun x1 =>
  bnd (l_szMeaning N x1 p1.1) fun x2 =>
  sel (decide (x2 < 0))
   (some (.inr (.rt ((-1)))))
   (some (.inl (x2, w64 (p1.2 + 1)))))
  (some (.inr (.nx p1.1)))
def l_szMeaningS (N : Nat) (v0 : List (Gx.Meaning)) (v1 : Int) : Option (Int) :=
 sel (decide ((w64 (v1 - (v0.length : Int))) < 0))
  (some (-1))
  (cutb (α := Int) (
   loopN (l_szMeaningS_L1 N v0) N (w64 (v1 - (v0.length : Int)), 0)) fun t3 =>
  some t3)
def l_szGrid (N : Nat) (v0 : Gx.Grid) (v1 : Int) : Option (Int) :=
 sel (decide ((w64 (v1 - (v0.mCells.length : Int))) < 0))
  (some (-1))
  (some (w64 (v1 - (v0.mCells.length : Int))))
def l_szStep (N : Nat) (v0 : Gx.Step) (v1 : Int) : Option (Int) :=
 sel (decide ((w64 (v1 - (v0.mWord.length : Int))) < 0))
  (some (-1))
  (some (w64 (v1 - (v0.mWord.length : Int))))
def l_szStepS_L1 (N : Nat) (v0 : List (Gx.Step)) (p1 : Int × Int) : Option (Sum (Int × Int) (Cut (Int) (Int))) :=
 sel (decide (p1.2 < (v0.length : Int)))
  (bnd (getI v0 p1.2) fun x1 =>
  bnd (l_szStep N x1 p1.1) fun x2 =>
  sel (decide (x2 < 0))
   (some (.inr (.rt ((-1)))))
   (some (.inl (x2, w64 (p1.2 + 1)))))
  (some (.inr (.nx p1.1)))
def l_szStepS (N : Nat) (v0 : List (Gx.Step)) (v1 : Int) : Option (Int) :=
 sel (decide ((w64 (v1 - (v0.length : Int))) < 0))
  (some (-1))
  (cutb (α := Int) (
   loopN (l_szStepS_L1 N v0) N (w64 (v1 - (v0.length : Int)), 0)) fun t3 =>
  some t3)
def l_szClue (N : Nat) (v0 : Gx.Clue) (v1 : Int) : Option (Int) :=
 bnd (l_szStepS N v0.mPlay v1) fun x1 =>
 sel (decide (x1 < 0))
  (some (-1))
  (some x1)
def l_szClueS_L1 (N : Nat) (v0 : List (Gx.Clue)) (p1 : Int × Int) : Option (Sum (Int × Int) (Cut (Int) (Int))) :=
 sel (decide (p1.2 < (v0.length : Int)))
  (bnd (getI v0 p1.2) fun x1 =>
  bnd (l_szClue N x1 p1.1) fun x2 =>
  sel (decide (x2 < 0))
   (some (.inr (.rt ((-1)))))
   (some (.inl (x2, w64 (p1.2 + 1)))))
  (some (.inr (.nx p1.1)))
def l_szClueS (N : Nat) (v0 : List (Gx.Clue)) (v1 : Int) : Option (Int) :=
 sel (decide ((w64 (v1 - (v0.length : Int))) < 0))
  (some (-1))
  (cutb (α := Int) (
   loopN (l_szClueS_L1 N v0) N (w64 (v1 - (v0.length : Int)), 0)) fun t3 =>
  some t3)
def l_szDraft (N : Nat) (v0 : Gx.Draft) (v1 : Int) : Option (Int) :=
 bnd (l_szGrid N v0.mGrid v1) fun x1 =>
 sel (decide (x1 < 0))
  (some (-1))
  (sel (decide ((w64 (x1 - (v0.mFill.length : Int))) < 0))
   (some (-1))
   (bnd (l_szClueS N v0.mClues (w64 (x1 - (v0.mFill.length : Int)))) fun x2 =>
   sel (decide (x2 < 0))
    (some (-1))
    (some x2)))
def l_szIntS (N : Nat) (v0 : List (Int)) (v1 : Int) : Option (Int) :=
 sel (decide ((w64 (v1 - (v0.length : Int))) < 0))
  (some (-1))
  (some (w64 (v1 - (v0.length : Int))))
def l_szPuzzle (N : Nat) (v0 : Gx.Puzzle) (v1 : Int) : Option (Int) :=
 bnd (l_szGrid N v0.mGrid v1) fun x1 =>
 sel (decide (x1 < 0))
  (some (-1))
  (bnd (l_szClueS N v0.mClues x1) fun x2 =>
  sel (decide (x2 < 0))
   (some (-1))
   (bnd (l_szIntS N v0.mSeals x2) fun x3 =>
   sel (decide (x3 < 0))
    (some (-1))
    (some x3)))
def l_szIssue (N : Nat) (v0 : Gx.Issue) (v1 : Int) : Option (Int) :=
 bnd (l_szPuzzle N v0.mPuzzle v1) fun x1 =>
 sel (decide (x1 < 0))
  (some (-1))
  (sel (decide ((w64 (x1 - (v0.mFill.length : Int))) < 0))
   (some (-1))
   (some (w64 (x1 - (v0.mFill.length : Int)))))
def l_szIssueS_L1 (N : Nat) (v0 : List (Gx.Issue)) (p1 : Int × Int) : Option (Sum (Int × Int) (Cut (Int) (Int))) :=
 sel (decide (p1.2 < (v0.length : Int)))
  (bnd (getI v0 p1.2) fun x1 =>
  bnd (l_szIssue N x1 p1.1) fun x2 =>
  sel (decide (x2 < 0))
   (some (.inr (.rt ((-1)))))
   (some (.inl (x2, w64 (p1.2 + 1)))))
  (some (.inr (.nx p1.1)))
def l_szIssueS (N : Nat) (v0 : List (Gx.Issue)) (v1 : Int) : Option (Int) :=
 sel (decide ((w64 (v1 - (v0.length : Int))) < 0))
  (some (-1))
  (cutb (α := Int) (
   loopN (l_szIssueS_L1 N v0) N (w64 (v1 - (v0.length : Int)), 0)) fun t3 =>
  some t3)
def l_szUsed (N : Nat) (v0 : Gx.Used) (v1 : Int) : Option (Int) :=
 sel (decide ((w64 (v1 - (v0.mWord.length : Int))) < 0))
  (some (-1))
  (some (w64 (v1 - (v0.mWord.length : Int))))
def l_szUsedS_L1 (N : Nat) (v0 : List (Gx.Used)) (p1 : Int × Int) : Option (Sum (Int × Int) (Cut (Int) (Int))) :=
 sel (decide (p1.2 < (v0.length : Int)))
  (bnd (getI v0 p1.2) fun x1 =>
  bnd (l_szUsed N x1 p1.1) fun x2 =>
  sel (decide (x2 < 0))
   (some (.inr (.rt ((-1)))))
   (some (.inl (x2, w64 (p1.2 + 1)))))
  (some (.inr (.nx p1.1)))
def l_szUsedS (N : Nat) (v0 : List (Gx.Used)) (v1 : Int) : Option (Int) :=
 sel (decide ((w64 (v1 - (v0.length : Int))) < 0))
  (some (-1))
  (cutb (α := Int) (
   loopN (l_szUsedS_L1 N v0) N (w64 (v1 - (v0.length : Int)), 0)) fun t3 =>
  some t3)
def l_szCorrection (N : Nat) (v0 : Gx.Correction) (v1 : Int) : Option (Int) :=
 bnd (l_szClue N v0.mClue v1) fun x1 =>
 sel (decide (x1 < 0))
  (some (-1))
  (some x1)
def l_szCorrectionS_L1 (N : Nat) (v0 : List (Gx.Correction)) (p1 : Int × Int) : Option (Sum (Int × Int) (Cut (Int) (Int))) :=
 sel (decide (p1.2 < (v0.length : Int)))
  (bnd (getI v0 p1.2) fun x1 =>
  bnd (l_szCorrection N x1 p1.1) fun x2 =>
  sel (decide (x2 < 0))
   (some (.inr (.rt ((-1)))))
   (some (.inl (x2, w64 (p1.2 + 1)))))
  (some (.inr (.nx p1.1)))
def l_szCorrectionS (N : Nat) (v0 : List (Gx.Correction)) (v1 : Int) : Option (Int) :=
 sel (decide ((w64 (v1 - (v0.length : Int))) < 0))
  (some (-1))
  (cutb (α := Int) (
   loopN (l_szCorrectionS_L1 N v0) N (w64 (v1 - (v0.length : Int)), 0)) fun t3 =>
  some t3)
def l_szEntry (N : Nat) (v0 : Gx.Entry) (v1 : Int) : Option (Int) :=
 sel (decide ((w64 (v1 - (v0.mFill.length : Int))) < 0))
  (some (-1))
  (some (w64 (v1 - (v0.mFill.length : Int))))
def l_szEntryS_L1 (N : Nat) (v0 : List (Gx.Entry)) (p1 : Int × Int) : Option (Sum (Int × Int) (Cut (Int) (Int))) :=
 sel (decide (p1.2 < (v0.length : Int)))
  (bnd (getI v0 p1.2) fun x1 =>
  bnd (l_szEntry N x1 p1.1) fun x2 =>
  sel (decide (x2 < 0))
   (some (.inr (.rt ((-1)))))
   (some (.inl (x2, w64 (p1.2 + 1)))))
  (some (.inr (.nx p1.1)))
def l_szEntryS (N : Nat) (v0 : List (Gx.Entry)) (v1 : Int) : Option (Int) :=
 sel (decide ((w64 (v1 - (v0.length : Int))) < 0))
  (some (-1))
  (cutb (α := Int) (
   loopN (l_szEntryS_L1 N v0) N (w64 (v1 - (v0.length : Int)), 0)) fun t3 =>
  some t3)
def l_szHouse (N : Nat) (v0 : Gx.House) (v1 : Int) : Option (Int) :=
 bnd (l_szListedS N v0.mList v1) fun x1 =>
 sel (decide (x1 < 0))
  (some (-1))
  (bnd (l_szMeaningS N v0.mDict x1) fun x2 =>
  sel (decide (x2 < 0))
   (some (-1))
   (bnd (l_szDraft N v0.mDesk x2) fun x3 =>
   sel (decide (x3 < 0))
    (some (-1))
    (bnd (l_szIssueS N v0.mIssues x3) fun x4 =>
    sel (decide (x4 < 0))
     (some (-1))
     (bnd (l_szUsedS N v0.mUses x4) fun x5 =>
     sel (decide (x5 < 0))
      (some (-1))
      (bnd (l_szCorrectionS N v0.mCorrections x5) fun x6 =>
      sel (decide (x6 < 0))
       (some (-1))
       (bnd (l_szEntryS N v0.mEntries x6) fun x7 =>
       sel (decide (x7 < 0))
        (some (-1))
        (some x7)))))))
def l_toListed (N : Nat) (v0 : Gx.Listed) : Option (Gx.Listed) :=
 some v0
def l_toListedS_L1 (N : Nat) (v0 : List (Gx.Listed)) (p1 : (List (Gx.Listed)) × Int) : Option (Sum ((List (Gx.Listed)) × Int) ((List (Gx.Listed)))) :=
 sel (decide (p1.2 < (v0.length : Int)))
  (bnd (getI v0 p1.2) fun x1 =>
  bnd (l_toListed N x1) fun x2 =>
  bnd (getI p1.1 p1.2) fun x3 =>
  some (.inl (List.set p1.1 (Int.toNat p1.2) x2, w64 (p1.2 + 1))))
  (some (.inr (p1.1)))
def l_toListedS (N : Nat) (v0 : List (Gx.Listed)) : Option ((List (Gx.Listed))) :=
 chk (0 ≤ (v0.length : Int) ∧ (v0.length : Int) ≤ 274877906944) <|
 bnd (α := (List (Gx.Listed))) (
  loopN (l_toListedS_L1 N v0) N (List.replicate (Int.toNat (v0.length : Int)) (⟨([] : List UInt8), 0, 0, 0⟩ : Gx.Listed), 0)) fun t4 =>
 some t4
def l_toMeaning (N : Nat) (v0 : Gx.Meaning) : Option (Gx.Meaning) :=
 some v0
def l_toMeaningS_L1 (N : Nat) (v0 : List (Gx.Meaning)) (p1 : (List (Gx.Meaning)) × Int) : Option (Sum ((List (Gx.Meaning)) × Int) ((List (Gx.Meaning)))) :=
 sel (decide (p1.2 < (v0.length : Int)))
  (bnd (getI v0 p1.2) fun x1 =>
  bnd (l_toMeaning N x1) fun x2 =>
  bnd (getI p1.1 p1.2) fun x3 =>
  some (.inl (List.set p1.1 (Int.toNat p1.2) x2, w64 (p1.2 + 1))))
  (some (.inr (p1.1)))
def l_toMeaningS (N : Nat) (v0 : List (Gx.Meaning)) : Option ((List (Gx.Meaning))) :=
 chk (0 ≤ (v0.length : Int) ∧ (v0.length : Int) ≤ 274877906944) <|
 bnd (α := (List (Gx.Meaning))) (
  loopN (l_toMeaningS_L1 N v0) N (List.replicate (Int.toNat (v0.length : Int)) (⟨([] : List UInt8), 0⟩ : Gx.Meaning), 0)) fun t4 =>
 some t4
def l_toGrid (N : Nat) (v0 : Gx.Grid) : Option (Gx.Grid) :=
 some v0
def l_toStep (N : Nat) (v0 : Gx.Step) : Option (Gx.Step) :=
 some v0
def l_toStepS_L1 (N : Nat) (v0 : List (Gx.Step)) (p1 : (List (Gx.Step)) × Int) : Option (Sum ((List (Gx.Step)) × Int) ((List (Gx.Step)))) :=
 sel (decide (p1.2 < (v0.length : Int)))
  (bnd (getI v0 p1.2) fun x1 =>
  bnd (l_toStep N x1) fun x2 =>
  bnd (getI p1.1 p1.2) fun x3 =>
  some (.inl (List.set p1.1 (Int.toNat p1.2) x2, w64 (p1.2 + 1))))
  (some (.inr (p1.1)))
def l_toStepS (N : Nat) (v0 : List (Gx.Step)) : Option ((List (Gx.Step))) :=
 chk (0 ≤ (v0.length : Int) ∧ (v0.length : Int) ≤ 274877906944) <|
 bnd (α := (List (Gx.Step))) (
  loopN (l_toStepS_L1 N v0) N (List.replicate (Int.toNat (v0.length : Int)) (⟨0, ([] : List UInt8), 0, 0⟩ : Gx.Step), 0)) fun t4 =>
 some t4
def l_toClue (N : Nat) (v0 : Gx.Clue) : Option (Gx.Clue) :=
 bnd (l_toStepS N v0.mPlay) fun x1 =>
 some (⟨v0.mSense, x1⟩ : Gx.Clue)
def l_toClueS_L1 (N : Nat) (v0 : List (Gx.Clue)) (p1 : (List (Gx.Clue)) × Int) : Option (Sum ((List (Gx.Clue)) × Int) ((List (Gx.Clue)))) :=
 sel (decide (p1.2 < (v0.length : Int)))
  (bnd (getI v0 p1.2) fun x1 =>
  bnd (l_toClue N x1) fun x2 =>
  bnd (getI p1.1 p1.2) fun x3 =>
  some (.inl (List.set p1.1 (Int.toNat p1.2) x2, w64 (p1.2 + 1))))
  (some (.inr (p1.1)))
def l_toClueS (N : Nat) (v0 : List (Gx.Clue)) : Option ((List (Gx.Clue))) :=
 chk (0 ≤ (v0.length : Int) ∧ (v0.length : Int) ≤ 274877906944) <|
 bnd (α := (List (Gx.Clue))) (
  loopN (l_toClueS_L1 N v0) N (List.replicate (Int.toNat (v0.length : Int)) (⟨0, []⟩ : Gx.Clue), 0)) fun t4 =>
 some t4
def l_toDraft (N : Nat) (v0 : Gx.Draft) : Option (Gx.Draft) :=
 bnd (l_toGrid N v0.mGrid) fun x1 =>
 bnd (l_toClueS N v0.mClues) fun x2 =>
 some (⟨(⟨x1.mRows, x1.mCols, x1.mCells⟩ : Gx.Grid), v0.mFill, x2, v0.mVersion⟩ : Gx.Draft)
def l_toIntS_L1 (N : Nat) (v0 : List (Int)) (p1 : (List (Int)) × Int) : Option (Sum ((List (Int)) × Int) ((List (Int)))) :=
 sel (decide (p1.2 < (v0.length : Int)))
  (bnd (getI v0 p1.2) fun x1 =>
  bnd (getI p1.1 p1.2) fun x2 =>
  some (.inl (List.set p1.1 (Int.toNat p1.2) x1, w64 (p1.2 + 1))))
  (some (.inr (p1.1)))
def l_toIntS (N : Nat) (v0 : List (Int)) : Option ((List (Int))) :=
 chk (0 ≤ (v0.length : Int) ∧ (v0.length : Int) ≤ 274877906944) <|
 bnd (α := (List (Int))) (
  loopN (l_toIntS_L1 N v0) N (List.replicate (Int.toNat (v0.length : Int)) 0, 0)) fun t3 =>
 some t3
def l_toPuzzle (N : Nat) (v0 : Gx.Puzzle) : Option (Gx.Puzzle) :=
 bnd (l_toGrid N v0.mGrid) fun x1 =>
 bnd (l_toClueS N v0.mClues) fun x2 =>
 bnd (l_toIntS N v0.mSeals) fun x3 =>
 some (⟨(⟨x1.mRows, x1.mCols, x1.mCells⟩ : Gx.Grid), x2, x3, v0.mSalt⟩ : Gx.Puzzle)
def l_toIssue (N : Nat) (v0 : Gx.Issue) : Option (Gx.Issue) :=
 bnd (l_toPuzzle N v0.mPuzzle) fun x1 =>
 some (⟨v0.mNumber, (⟨(⟨x1.mGrid.mRows, x1.mGrid.mCols, x1.mGrid.mCells⟩ : Gx.Grid), x1.mClues, x1.mSeals, x1.mSalt⟩ : Gx.Puzzle), v0.mFill, v0.mOpen, v0.mClose⟩ : Gx.Issue)
def l_toIssueS_L1 (N : Nat) (v0 : List (Gx.Issue)) (p1 : (List (Gx.Issue)) × Int) : Option (Sum ((List (Gx.Issue)) × Int) ((List (Gx.Issue)))) :=
 sel (decide (p1.2 < (v0.length : Int)))
  (bnd (getI v0 p1.2) fun x1 =>
  bnd (l_toIssue N x1) fun x2 =>
  bnd (getI p1.1 p1.2) fun x3 =>
  some (.inl (List.set p1.1 (Int.toNat p1.2) x2, w64 (p1.2 + 1))))
  (some (.inr (p1.1)))
def l_toIssueS (N : Nat) (v0 : List (Gx.Issue)) : Option ((List (Gx.Issue))) :=
 chk (0 ≤ (v0.length : Int) ∧ (v0.length : Int) ≤ 274877906944) <|
 bnd (α := (List (Gx.Issue))) (
  loopN (l_toIssueS_L1 N v0) N (List.replicate (Int.toNat (v0.length : Int)) (⟨0, (⟨(⟨0, 0, ([] : List UInt8)⟩ : Gx.Grid), [], [], 0⟩ : Gx.Puzzle), ([] : List UInt8), 0, 0⟩ : Gx.Issue), 0)) fun t4 =>
 some t4
def l_toUsed (N : Nat) (v0 : Gx.Used) : Option (Gx.Used) :=
 some v0
def l_toUsedS_L1 (N : Nat) (v0 : List (Gx.Used)) (p1 : (List (Gx.Used)) × Int) : Option (Sum ((List (Gx.Used)) × Int) ((List (Gx.Used)))) :=
 sel (decide (p1.2 < (v0.length : Int)))
  (bnd (getI v0 p1.2) fun x1 =>
  bnd (l_toUsed N x1) fun x2 =>
  bnd (getI p1.1 p1.2) fun x3 =>
  some (.inl (List.set p1.1 (Int.toNat p1.2) x2, w64 (p1.2 + 1))))
  (some (.inr (p1.1)))
def l_toUsedS (N : Nat) (v0 : List (Gx.Used)) : Option ((List (Gx.Used))) :=
 chk (0 ≤ (v0.length : Int) ∧ (v0.length : Int) ≤ 274877906944) <|
 bnd (α := (List (Gx.Used))) (
  loopN (l_toUsedS_L1 N v0) N (List.replicate (Int.toNat (v0.length : Int)) (⟨([] : List UInt8), 0⟩ : Gx.Used), 0)) fun t4 =>
 some t4
def l_toCorrection (N : Nat) (v0 : Gx.Correction) : Option (Gx.Correction) :=
 bnd (l_toClue N v0.mClue) fun x1 =>
 some (⟨v0.mIssue, v0.mSlot, (⟨x1.mSense, x1.mPlay⟩ : Gx.Clue), v0.mTick⟩ : Gx.Correction)
def l_toCorrectionS_L1 (N : Nat) (v0 : List (Gx.Correction)) (p1 : (List (Gx.Correction)) × Int) : Option (Sum ((List (Gx.Correction)) × Int) ((List (Gx.Correction)))) :=
 sel (decide (p1.2 < (v0.length : Int)))
  (bnd (getI v0 p1.2) fun x1 =>
  bnd (l_toCorrection N x1) fun x2 =>
  bnd (getI p1.1 p1.2) fun x3 =>
  some (.inl (List.set p1.1 (Int.toNat p1.2) x2, w64 (p1.2 + 1))))
  (some (.inr (p1.1)))
def l_toCorrectionS (N : Nat) (v0 : List (Gx.Correction)) : Option ((List (Gx.Correction))) :=
 chk (0 ≤ (v0.length : Int) ∧ (v0.length : Int) ≤ 274877906944) <|
 bnd (α := (List (Gx.Correction))) (
  loopN (l_toCorrectionS_L1 N v0) N (List.replicate (Int.toNat (v0.length : Int)) (⟨0, 0, (⟨0, []⟩ : Gx.Clue), 0⟩ : Gx.Correction), 0)) fun t4 =>
 some t4
def l_toEntry (N : Nat) (v0 : Gx.Entry) : Option (Gx.Entry) :=
 some v0
def l_toEntryS_L1 (N : Nat) (v0 : List (Gx.Entry)) (p1 : (List (Gx.Entry)) × Int) : Option (Sum ((List (Gx.Entry)) × Int) ((List (Gx.Entry)))) :=
 sel (decide (p1.2 < (v0.length : Int)))
  (bnd (getI v0 p1.2) fun x1 =>
  bnd (l_toEntry N x1) fun x2 =>
  bnd (getI p1.1 p1.2) fun x3 =>
  some (.inl (List.set p1.1 (Int.toNat p1.2) x2, w64 (p1.2 + 1))))
  (some (.inr (p1.1)))
def l_toEntryS (N : Nat) (v0 : List (Gx.Entry)) : Option ((List (Gx.Entry))) :=
 chk (0 ≤ (v0.length : Int) ∧ (v0.length : Int) ≤ 274877906944) <|
 bnd (α := (List (Gx.Entry))) (
  loopN (l_toEntryS_L1 N v0) N (List.replicate (Int.toNat (v0.length : Int)) (⟨0, 0, 0, ([] : List UInt8)⟩ : Gx.Entry), 0)) fun t4 =>
 some t4
def l_toHouse (N : Nat) (v0 : Gx.House) : Option (Gx.House) :=
 bnd (l_toListedS N v0.mList) fun x1 =>
 bnd (l_toMeaningS N v0.mDict) fun x2 =>
 bnd (l_toDraft N v0.mDesk) fun x3 =>
 bnd (l_toIssueS N v0.mIssues) fun x4 =>
 bnd (l_toUsedS N v0.mUses) fun x5 =>
 bnd (l_toCorrectionS N v0.mCorrections) fun x6 =>
 bnd (l_toEntryS N v0.mEntries) fun x7 =>
 some (⟨x1, x2, (⟨(⟨x3.mGrid.mRows, x3.mGrid.mCols, x3.mGrid.mCells⟩ : Gx.Grid), x3.mFill, x3.mClues, x3.mVersion⟩ : Gx.Draft), x4, x5, x6, x7, v0.mNow⟩ : Gx.House)
def s_l1In (N : Nat) (v0 : Int) (v1 : Int) (v2 : Int) : Option (Bool) :=
 sel (decide (v0 ≥ v1))
  (some (decide (v0 ≤ v2)))
  (some false)
def s_IsWord_L1 (N : Nat) (v0 : List UInt8) (p1 : Int) : Option (Sum (Int) (Cut (Unit) (Bool))) :=
 sel (decide (p1 < (v0.length : Int)))
  (chk (0 ≤ p1 ∧ p1 < (v0.length : Int)) <|
  sel (decide ((byteI v0 p1) < 97))
   (some (.inr (.rt (false))))
   (chk (0 ≤ p1 ∧ p1 < (v0.length : Int)) <|
   sel (decide ((byteI v0 p1) > 122))
    (some (.inr (.rt (false))))
    (some (.inl (w64 (p1 + 1))))))
  (some (.inr (.nx ())))
def s_IsWord (N : Nat) (v0 : List UInt8) : Option (Bool) :=
 bnd (s_l1In N (v0.length : Int) 1 8) fun x1 =>
 sel (!x1)
  (some false)
  (cutb (α := Unit) (
   loopN (s_IsWord_L1 N v0) N 0) fun t2 =>
  some true)
def s_l15Ok (N : Nat) (v0 : List (Gx.Step)) (v1 : Int) : Option (Bool) :=
 bnd (getI v0 v1) fun x1 =>
 cutb (α := Unit) (
  bnd (s_l1In N x1.mKind 1 9) fun x2 =>
  sel (!x2)
   (some (.rt (false)))
   (bnd (s_IsWord N x1.mWord) fun x3 =>
   sel ((x1.mKind == 1) != x3)
    (some (.rt (false)))
    (sel (x1.mKind != 1)
     (sel (x1.mWord != ([] : List UInt8))
      (some (.rt (false)))
      (some (.nx ())))
     (some (.nx ()))))) fun t4 =>
 bnd (α := Bool) (
  sel (x1.mKind == 4)
   (some true)
   (some (x1.mKind == 5))) fun t5 =>
 sel (x1.mKind == 1)
  (sel (x1.mA == 0)
   (some (x1.mB == 0))
   (some false))
  (cutb (α := Unit) (
   bnd (s_l1In N x1.mA 0 (w64 (v1 - 1))) fun x6 =>
   sel (!x6)
    (some (.rt (false)))
    (sel (t5)
     (bnd (s_l1In N x1.mB 0 (w64 (v1 - 1))) fun x7 =>
     sel (!x7)
      (some (.rt (false)))
      (sel (!t5)
       (sel (x1.mB != 0)
        (some (.rt (false)))
        (some (.nx ())))
       (some (.nx ()))))
     (sel (!t5)
      (sel (x1.mB != 0)
       (some (.rt (false)))
       (some (.nx ())))
      (some (.nx ()))))) fun t8 =>
  sel (t5)
   (some true)
   (sel (x1.mKind == 2)
    (some true)
    (bnd (getI v0 x1.mA) fun x9 =>
    some (x9.mKind == 1))))
def s_IsPlay_L1 (N : Nat) (v0 : List (Gx.Step)) (p1 : Int) : Option (Sum (Int) (Cut (Unit) (Bool))) :=
 sel (decide (p1 < (v0.length : Int)))
  (sel (decide ((v0.length : Int) ≤ 9))
   (bnd (s_l15Ok N v0 p1) fun x1 =>
   sel (!x1)
    (some (.inr (.rt (false))))
    (some (.inl (w64 (p1 + 1)))))
   (some (.inr (.nx ()))))
  (some (.inr (.nx ())))
def s_IsPlay (N : Nat) (v0 : List (Gx.Step)) : Option (Bool) :=
 cutb (α := Unit) (
  loopN (s_IsPlay_L1 N v0) N 0) fun t2 =>
 bnd (s_l1In N (v0.length : Int) 1 9) fun x3 =>
 some x3
def s_IsClue (N : Nat) (v0 : Gx.Clue) : Option (Bool) :=
 bnd (s_l1In N v0.mSense 1 99) fun x1 =>
 sel (x1)
  (bnd (s_IsPlay N v0.mPlay) fun x2 =>
  some x2)
  (some false)
def s_IsGrid_L1 (N : Nat) (v0 : Gx.Grid) (p1 : Int) : Option (Sum (Int) (Cut (Unit) (Bool))) :=
 sel (decide (p1 < (v0.mCells.length : Int)))
  (chk (0 ≤ p1 ∧ p1 < (v0.mCells.length : Int)) <|
  sel ((byteI v0.mCells p1) != 35)
   (chk (0 ≤ p1 ∧ p1 < (v0.mCells.length : Int)) <|
   sel ((byteI v0.mCells p1) != 46)
    (some (.inr (.rt (false))))
    (some (.inl (w64 (p1 + 1)))))
   (some (.inl (w64 (p1 + 1)))))
  (some (.inr (.nx ())))
def s_IsGrid (N : Nat) (v0 : Gx.Grid) : Option (Bool) :=
 bnd (s_l1In N v0.mRows 2 6) fun x1 =>
 sel (!x1)
  (some false)
  (bnd (s_l1In N v0.mCols 2 6) fun x2 =>
  sel (!x2)
   (some false)
   (sel ((v0.mCells.length : Int) != (w64 (v0.mRows * v0.mCols)))
    (some false)
    (cutb (α := Unit) (
     loopN (s_IsGrid_L1 N v0) N 0) fun t3 =>
    some true)))
def s_l8From_L1 (N : Nat) (t1 : Int × Int × Int) (v1 : Int) (v0 : Gx.Grid) (p1 : Int) : Option (Sum (Int) (Int)) :=
 sel (decide ((w64 (t1.2.1 + p1)) < t1.2.2))
  (chk (0 ≤ (w64 (v1 + (w64 (p1 * t1.1)))) ∧ (w64 (v1 + (w64 (p1 * t1.1)))) < (v0.mCells.length : Int)) <|
  sel ((byteI v0.mCells (w64 (v1 + (w64 (p1 * t1.1))))) == 46)
   (some (.inl (w64 (p1 + 1))))
   (some (.inr (p1))))
  (some (.inr (p1)))
def s_l8From (N : Nat) (v0 : Gx.Grid) (v1 : Int) (v2 : Bool) : Option (Int) :=
 chk ((v0.mCols : Int) ≠ 0) <|
 bnd (α := Int × Int × Int) (
  sel (v2)
   (chk ((v0.mCols : Int) ≠ 0) <|
   some (v0.mCols, w64 (Int.tdiv v1 v0.mCols), v0.mRows))
   (some (1, Int.tmod v1 v0.mCols, v0.mCols))) fun t1 =>
 cutb (α := Unit) (
  chk (0 ≤ v1 ∧ v1 < (v0.mCells.length : Int)) <|
  sel ((byteI v0.mCells v1) != 46)
   (some (.rt (0)))
   (sel (decide (t1.2.1 > 0))
    (chk (0 ≤ (w64 (v1 - t1.1)) ∧ (w64 (v1 - t1.1)) < (v0.mCells.length : Int)) <|
    sel ((byteI v0.mCells (w64 (v1 - t1.1))) == 46)
     (some (.rt (0)))
     (some (.nx ())))
    (some (.nx ())))) fun t2 =>
 bnd (α := Int) (
  loopN (s_l8From_L1 N t1 v1 v0) N 0) fun t3 =>
 some t3
def s_SlotsOf_L1 (N : Nat) (v0 : Gx.Grid) (p1 : (List (Gx.Slot)) × Int × Int) : Option (Sum ((List (Gx.Slot)) × Int × Int) ((List (Gx.Slot)))) :=
 sel (decide (p1.2.2 < (v0.mCells.length : Int)))
  (bnd (s_IsGrid N v0) fun x1 =>
  sel (x1)
   (bnd (s_l8From N v0 p1.2.2 false) fun x2 =>
   bnd (s_l8From N v0 p1.2.2 true) fun x3 =>
   bnd (α := Int) (
    sel (decide (x2 ≥ 2))
     (some (w64 (p1.2.1 + 1)))
     (sel (decide (x3 ≥ 2))
      (some (w64 (p1.2.1 + 1)))
      (some p1.2.1))) fun t4 =>
   bnd (α := (List (Gx.Slot))) (
    sel (decide (x2 ≥ 2))
     (chk (p1.1.length + ([(⟨t4, false, p1.2.2, x2⟩ : Gx.Slot)]).length ≤ 274877906944) <|
     some (p1.1 ++ ([(⟨t4, false, p1.2.2, x2⟩ : Gx.Slot)])))
     (some p1.1)) fun t5 =>
   sel (decide (x3 ≥ 2))
    (chk (t5.length + ([(⟨t4, true, p1.2.2, x3⟩ : Gx.Slot)]).length ≤ 274877906944) <|
    some (.inl (t5 ++ ([(⟨t4, true, p1.2.2, x3⟩ : Gx.Slot)]), t4, w64 (p1.2.2 + 1))))
    (some (.inl (t5, t4, w64 (p1.2.2 + 1)))))
   (some (.inr (p1.1))))
  (some (.inr (p1.1)))
def s_SlotsOf (N : Nat) (v0 : Gx.Grid) : Option ((List (Gx.Slot))) :=
 bnd (α := (List (Gx.Slot))) (
  loopN (s_SlotsOf_L1 N v0) N ([], 0, 0)) fun t6 =>
 some t6
def s_Backwards_L1 (N : Nat) (v0 : List UInt8) (p1 : (List UInt8) × Int) : Option (Sum ((List UInt8) × Int) ((List UInt8))) :=
 sel (decide (p1.2 < (v0.length : Int)))
  (sel (decide ((v0.length : Int) ≤ 100))
   (chk (0 ≤ p1.2 ∧ p1.2 ≤ (w64 (p1.2 + 1)) ∧ (w64 (p1.2 + 1)) ≤ (v0.length : Int)) <|
   chk ((sub v0 p1.2 (w64 (p1.2 + 1))).length + p1.1.length ≤ 274877906944) <|
   some (.inl ((sub v0 p1.2 (w64 (p1.2 + 1))) ++ p1.1, w64 (p1.2 + 1))))
   (some (.inr (p1.1))))
  (some (.inr (p1.1)))
def s_Backwards (N : Nat) (v0 : List UInt8) : Option ((List UInt8)) :=
 bnd (α := (List UInt8)) (
  loopN (s_Backwards_L1 N v0) N (([] : List UInt8), 0)) fun t1 =>
 some t1
def s_TurnGrid (N : Nat) (v0 : Gx.Grid) : Option (Gx.Grid) :=
 bnd (s_IsGrid N v0) fun x1 =>
 sel (!x1)
  (some (⟨0, 0, ([] : List UInt8)⟩ : Gx.Grid))
  (bnd (s_Backwards N v0.mCells) fun x2 =>
  some (⟨v0.mRows, v0.mCols, x2⟩ : Gx.Grid))
def s_IsSymmetric (N : Nat) (v0 : Gx.Grid) : Option (Bool) :=
 bnd (s_IsGrid N v0) fun x1 =>
 sel (x1)
  (bnd (s_TurnGrid N v0) fun x2 =>
  some (x2.mRows == v0.mRows && (x2.mCols == v0.mCols && (x2.mCells == v0.mCells && true))))
  (some false)
def s_l10Reach_L2 (N : Nat) (v0 : Gx.Grid) (p2 : (List (Bool)) × Bool × Int) : Option (Sum ((List (Bool)) × Bool × Int) (Sum ((List (Bool)) × Bool) ((List (Bool))))) :=
 sel (decide (p2.2.2 < (p2.1.length : Int)))
  (bnd (getI p2.1 p2.2.2) fun x2 =>
  sel (x2)
   (some (.inl (p2.1, p2.2.1, w64 (p2.2.2 + 1))))
   (chk (0 ≤ p2.2.2 ∧ p2.2.2 < (v0.mCells.length : Int)) <|
   sel ((byteI v0.mCells p2.2.2) != 46)
    (some (.inl (p2.1, p2.2.1, w64 (p2.2.2 + 1))))
    (chk ((v0.mCols : Int) ≠ 0) <|
    bnd (α := Bool) (
     sel (decide ((Int.tmod p2.2.2 v0.mCols) > 0))
      (bnd (getI p2.1 (w64 (p2.2.2 - 1))) fun x3 =>
      sel (x3)
       (some true)
       (sel (decide ((w64 ((Int.tmod p2.2.2 v0.mCols) + 1)) < v0.mCols))
        (bnd (getI p2.1 (w64 (p2.2.2 + 1))) fun x4 =>
        sel (x4)
         (some true)
         (sel (decide (p2.2.2 ≥ v0.mCols))
          (bnd (getI p2.1 (w64 (p2.2.2 - v0.mCols))) fun x5 =>
          sel (x5)
           (some true)
           (sel (decide ((w64 (p2.2.2 + v0.mCols)) < (p2.1.length : Int)))
            (bnd (getI p2.1 (w64 (p2.2.2 + v0.mCols))) fun x6 =>
            some x6)
            (some false)))
          (sel (decide ((w64 (p2.2.2 + v0.mCols)) < (p2.1.length : Int)))
           (bnd (getI p2.1 (w64 (p2.2.2 + v0.mCols))) fun x7 =>
           some x7)
           (some false))))
        (sel (decide (p2.2.2 ≥ v0.mCols))
         (bnd (getI p2.1 (w64 (p2.2.2 - v0.mCols))) fun x8 =>
         sel (x8)
          (some true)
          (sel (decide ((w64 (p2.2.2 + v0.mCols)) < (p2.1.length : Int)))
           (bnd (getI p2.1 (w64 (p2.2.2 + v0.mCols))) fun x9 =>
           some x9)
           (some false)))
         (sel (decide ((w64 (p2.2.2 + v0.mCols)) < (p2.1.length : Int)))
          (bnd (getI p2.1 (w64 (p2.2.2 + v0.mCols))) fun x10 =>
          some x10)
          (some false)))))
      (sel (decide ((w64 ((Int.tmod p2.2.2 v0.mCols) + 1)) < v0.mCols))
       (bnd (getI p2.1 (w64 (p2.2.2 + 1))) fun x11 =>
       sel (x11)
        (some true)
        (sel (decide (p2.2.2 ≥ v0.mCols))
         (bnd (getI p2.1 (w64 (p2.2.2 - v0.mCols))) fun x12 =>
         sel (x12)
          (some true)
          (sel (decide ((w64 (p2.2.2 + v0.mCols)) < (p2.1.length : Int)))
           (bnd (getI p2.1 (w64 (p2.2.2 + v0.mCols))) fun x13 =>
           some x13)
           (some false)))
         (sel (decide ((w64 (p2.2.2 + v0.mCols)) < (p2.1.length : Int)))
          (bnd (getI p2.1 (w64 (p2.2.2 + v0.mCols))) fun x14 =>
          some x14)
          (some false))))
       (sel (decide (p2.2.2 ≥ v0.mCols))
        (bnd (getI p2.1 (w64 (p2.2.2 - v0.mCols))) fun x15 =>
        sel (x15)
         (some true)
         (sel (decide ((w64 (p2.2.2 + v0.mCols)) < (p2.1.length : Int)))
          (bnd (getI p2.1 (w64 (p2.2.2 + v0.mCols))) fun x16 =>
          some x16)
          (some false)))
        (sel (decide ((w64 (p2.2.2 + v0.mCols)) < (p2.1.length : Int)))
         (bnd (getI p2.1 (w64 (p2.2.2 + v0.mCols))) fun x17 =>
         some x17)
         (some false))))) fun t18 =>
    sel (t18)
     (bnd (getI p2.1 p2.2.2) fun x19 =>
     some (.inl (List.set p2.1 (Int.toNat p2.2.2) true, true, w64 (p2.2.2 + 1))))
     (some (.inl (p2.1, p2.2.1, w64 (p2.2.2 + 1)))))))
  (some (.inr (.inl (p2.1, p2.2.1))))
def s_l10Reach_L1 (N : Nat) (v0 : Gx.Grid) (p1 : (List (Bool)) × Bool) : Option (Sum ((List (Bool)) × Bool) ((List (Bool)))) :=
 sel (p1.2)
  (loopN (s_l10Reach_L2 N v0) N (p1.1, false, 0))
  (some (.inr (p1.1)))
def s_l10Reach (N : Nat) (v0 : Gx.Grid) (v1 : List (Bool)) (v2 : Int) : Option ((List (Bool))) :=
 bnd (getI v1 v2) fun x1 =>
 bnd (α := (List (Bool))) (
  loopN (s_l10Reach_L1 N v0) N (List.set v1 (Int.toNat v2) true, true)) fun t20 =>
 some t20
def s_PartsOf_L1 (N : Nat) (v0 : Gx.Grid) (p1 : (List (Bool)) × Int) : Option (Sum ((List (Bool)) × Int) ((List (Bool)))) :=
 sel (decide (p1.2 < (v0.mCells.length : Int)))
  (chk (p1.1.length + ([false]).length ≤ 274877906944) <|
  some (.inl (p1.1 ++ ([false]), w64 (p1.2 + 1))))
  (some (.inr (p1.1)))
def s_PartsOf_L3 (N : Nat) (p2 : Int × (List (Bool)) × Int) (p3 : (List (Bool)) × Int) : Option (Sum ((List (Bool)) × Int) ((List (Bool)))) :=
 sel (decide (p3.2 < (p2.2.1.length : Int)))
  (chk (p3.1.length + ([false]).length ≤ 274877906944) <|
  some (.inl (p3.1 ++ ([false]), w64 (p3.2 + 1))))
  (some (.inr (p3.1)))
def s_PartsOf_L4 (N : Nat) (x6 : (List (Bool))) (p2 : Int × (List (Bool)) × Int) (p4 : (List (Bool)) × Int) : Option (Sum ((List (Bool)) × Int) (Int × (List (Bool)))) :=
 sel (decide (p4.2 < (p4.1.length : Int)))
  (bnd (getI p4.1 p4.2) fun x7 =>
  sel (x7)
   (bnd (getI p4.1 p4.2) fun x8 =>
   some (.inl (List.set p4.1 (Int.toNat p4.2) true, w64 (p4.2 + 1))))
   (bnd (getI x6 p4.2) fun x9 =>
   bnd (getI p4.1 p4.2) fun x10 =>
   some (.inl (List.set p4.1 (Int.toNat p4.2) x9, w64 (p4.2 + 1)))))
  (some (.inr ((w64 (p2.1 + 1), p4.1))))
def s_PartsOf_L2 (N : Nat) (v0 : Gx.Grid) (p2 : Int × (List (Bool)) × Int) : Option (Sum (Int × (List (Bool)) × Int) (Int)) :=
 sel (decide (p2.2.2 < (v0.mCells.length : Int)))
  (bnd (s_IsGrid N v0) fun x2 =>
  sel (x2)
   (bnd (α := Int × (List (Bool))) (
    bnd (α := Bool) (
     chk (0 ≤ p2.2.2 ∧ p2.2.2 < (v0.mCells.length : Int)) <|
     sel ((byteI v0.mCells p2.2.2) == 46)
      (bnd (getI p2.2.1 p2.2.2) fun x3 =>
      some !x3)
      (some false)) fun t4 =>
    sel (t4)
     (bnd (α := (List (Bool))) (
      loopN (s_PartsOf_L3 N p2) N ([], 0)) fun t5 =>
     bnd (s_l10Reach N v0 t5 p2.2.2) fun x6 =>
     loopN (s_PartsOf_L4 N x6 p2) N (p2.2.1, 0))
     (some (p2.1, p2.2.1))) fun t11 =>
   some (.inl (t11.1, t11.2, w64 (p2.2.2 + 1))))
   (some (.inr (p2.1))))
  (some (.inr (p2.1)))
def s_PartsOf (N : Nat) (v0 : Gx.Grid) : Option (Int) :=
 bnd (α := (List (Bool))) (
  loopN (s_PartsOf_L1 N v0) N ([], 0)) fun t1 =>
 bnd (α := Int) (
  loopN (s_PartsOf_L2 N v0) N (0, t1, 0)) fun t12 =>
 some t12
def s_IsConnected (N : Nat) (v0 : Gx.Grid) : Option (Bool) :=
 bnd (s_PartsOf N v0) fun x1 =>
 some (x1 == 1)
def s_l10Short_L1 (N : Nat) (x1 : (List (Gx.Slot))) (p1 : Int) : Option (Sum (Int) (Cut (Unit) (Bool))) :=
 sel (decide (p1 < (x1.length : Int)))
  (bnd (getI x1 p1) fun x2 =>
  sel (decide (x2.mLength < 3))
   (some (.inr (.rt (true))))
   (some (.inl (w64 (p1 + 1)))))
  (some (.inr (.nx ())))
def s_l10Short (N : Nat) (v0 : Gx.Grid) : Option (Bool) :=
 bnd (s_SlotsOf N v0) fun x1 =>
 cutb (α := Unit) (
  loopN (s_l10Short_L1 N x1) N 0) fun t3 =>
 some false
def s_CellsOf_L2 (N : Nat) (v1 : Gx.Slot) (v0 : Gx.Grid) (p2 : (List (Int)) × Int) : Option (Sum ((List (Int)) × Int) ((List (Int)))) :=
 sel (decide (p2.2 < v1.mLength))
  (sel (v1.mDown)
   (chk (p2.1.length + ([w64 (v1.mCell + (w64 (p2.2 * v0.mCols)))]).length ≤ 274877906944) <|
   some (.inl (p2.1 ++ ([w64 (v1.mCell + (w64 (p2.2 * v0.mCols)))]), w64 (p2.2 + 1))))
   (chk (p2.1.length + ([w64 (v1.mCell + p2.2)]).length ≤ 274877906944) <|
   some (.inl (p2.1 ++ ([w64 (v1.mCell + p2.2)]), w64 (p2.2 + 1)))))
  (some (.inr (p2.1)))
def s_CellsOf_L1 (N : Nat) (x1 : (List (Gx.Slot))) (v1 : Gx.Slot) (v0 : Gx.Grid) (p1 : (List (Int)) × Int) : Option (Sum ((List (Int)) × Int) ((List (Int)))) :=
 sel (decide (p1.2 < (x1.length : Int)))
  (bnd (α := (List (Int))) (
   bnd (getI x1 p1.2) fun x2 =>
   sel (!(x2.mNumber == v1.mNumber && (x2.mDown == v1.mDown && (x2.mCell == v1.mCell && (x2.mLength == v1.mLength && true)))))
    (some p1.1)
    (loopN (s_CellsOf_L2 N v1 v0) N (p1.1, 0))) fun t3 =>
  some (.inl (t3, w64 (p1.2 + 1))))
  (some (.inr (p1.1)))
def s_CellsOf (N : Nat) (v0 : Gx.Grid) (v1 : Gx.Slot) : Option ((List (Int))) :=
 bnd (s_SlotsOf N v0) fun x1 =>
 bnd (α := (List (Int))) (
  loopN (s_CellsOf_L1 N x1 v1 v0) N ([], 0)) fun t4 =>
 some t4
def s_l8Has_L1 (N : Nat) (v0 : List (Int)) (v1 : Int) (p1 : Int) : Option (Sum (Int) (Cut (Unit) (Bool))) :=
 sel (decide (p1 < (v0.length : Int)))
  (bnd (getI v0 p1) fun x1 =>
  sel (x1 == v1)
   (some (.inr (.rt (true))))
   (some (.inl (w64 (p1 + 1)))))
  (some (.inr (.nx ())))
def s_l8Has (N : Nat) (v0 : List (Int)) (v1 : Int) : Option (Bool) :=
 cutb (α := Unit) (
  loopN (s_l8Has_L1 N v0 v1) N 0) fun t2 =>
 some false
def s_SlotsAt_L1 (N : Nat) (x1 : (List (Gx.Slot))) (v0 : Gx.Grid) (v1 : Int) (p1 : (List (Int)) × Int) : Option (Sum ((List (Int)) × Int) ((List (Int)))) :=
 sel (decide (p1.2 < (x1.length : Int)))
  (bnd (getI x1 p1.2) fun x2 =>
  bnd (s_CellsOf N v0 x2) fun x3 =>
  bnd (s_l8Has N x3 v1) fun x4 =>
  sel (x4)
   (chk (p1.1.length + ([p1.2]).length ≤ 274877906944) <|
   some (.inl (p1.1 ++ ([p1.2]), w64 (p1.2 + 1))))
   (some (.inl (p1.1, w64 (p1.2 + 1)))))
  (some (.inr (p1.1)))
def s_SlotsAt (N : Nat) (v0 : Gx.Grid) (v1 : Int) : Option ((List (Int))) :=
 bnd (s_SlotsOf N v0) fun x1 =>
 bnd (α := (List (Int))) (
  loopN (s_SlotsAt_L1 N x1 v0 v1) N ([], 0)) fun t5 =>
 some t5
def s_IsChecked (N : Nat) (v0 : Gx.Grid) (v1 : Int) : Option (Bool) :=
 bnd (s_SlotsAt N v0 v1) fun x1 =>
 some ((x1.length : Int) == 2)
def s_UncheckedIn_L1 (N : Nat) (x4 : (List (Int))) (v0 : Gx.Grid) (p1 : Int × Int) : Option (Sum (Int × Int) (Int)) :=
 sel (decide (p1.2 < (x4.length : Int)))
  (bnd (getI x4 p1.2) fun x5 =>
  bnd (s_IsChecked N v0 x5) fun x6 =>
  sel (!x6)
   (some (.inl (w64 (p1.1 + 1), w64 (p1.2 + 1))))
   (some (.inl (p1.1, w64 (p1.2 + 1)))))
  (some (.inr (p1.1)))
def s_UncheckedIn (N : Nat) (v0 : Gx.Grid) (v1 : Int) : Option (Int) :=
 bnd (s_SlotsOf N v0) fun x1 =>
 bnd (s_l1In N v1 0 (w64 ((x1.length : Int) - 1))) fun x2 =>
 sel (!x2)
  (some (-1))
  (bnd (getI x1 v1) fun x3 =>
  bnd (s_CellsOf N v0 x3) fun x4 =>
  bnd (α := Int) (
   loopN (s_UncheckedIn_L1 N x4 v0) N (0, 0)) fun t7 =>
  some t7)
def s_IsWhite (N : Nat) (v0 : Gx.Grid) (v1 : Int) : Option (Bool) :=
 bnd (s_IsGrid N v0) fun x1 =>
 sel (x1)
  (bnd (s_l1In N v1 0 (w64 ((v0.mCells.length : Int) - 1))) fun x2 =>
  sel (x2)
   (chk (0 ≤ v1 ∧ v1 < (v0.mCells.length : Int)) <|
   some ((byteI v0.mCells v1) == 46))
   (some false))
  (some false)
def s_l10Alone_L1 (N : Nat) (x1 : (List (Gx.Slot))) (v0 : Gx.Grid) (p1 : Int) : Option (Sum (Int) (Cut (Unit) (Bool))) :=
 sel (decide (p1 < (x1.length : Int)))
  (bnd (s_UncheckedIn N v0 p1) fun x2 =>
  bnd (getI x1 p1) fun x3 =>
  sel (decide ((w64 (2 * x2)) > x3.mLength))
   (some (.inr (.rt (true))))
   (some (.inl (w64 (p1 + 1)))))
  (some (.inr (.nx ())))
def s_l10Alone_L2 (N : Nat) (v0 : Gx.Grid) (p2 : Int) : Option (Sum (Int) (Cut (Unit) (Bool))) :=
 sel (decide (p2 < (v0.mCells.length : Int)))
  (bnd (s_IsWhite N v0 p2) fun x5 =>
  sel (x5)
   (bnd (s_SlotsAt N v0 p2) fun x6 =>
   sel ((x6.length : Int) == 0)
    (some (.inr (.rt (true))))
    (some (.inl (w64 (p2 + 1)))))
   (some (.inl (w64 (p2 + 1)))))
  (some (.inr (.nx ())))
def s_l10Alone (N : Nat) (v0 : Gx.Grid) : Option (Bool) :=
 bnd (s_SlotsOf N v0) fun x1 =>
 cutb (α := Unit) (
  loopN (s_l10Alone_L1 N x1 v0) N 0) fun t4 =>
 cutb (α := Unit) (
  loopN (s_l10Alone_L2 N v0) N 0) fun t7 =>
 some false
def s_FormOf (N : Nat) (v0 : Gx.Grid) : Option (Int) :=
 bnd (s_IsGrid N v0) fun x1 =>
 sel (!x1)
  (some 1)
  (bnd (s_IsSymmetric N v0) fun x2 =>
  sel (!x2)
   (some 2)
   (bnd (s_IsConnected N v0) fun x3 =>
   sel (!x3)
    (some 3)
    (bnd (s_l10Short N v0) fun x4 =>
    sel (x4)
     (some 4)
     (bnd (s_l10Alone N v0) fun x5 =>
     sel (x5)
      (some 5)
      (some 0)))))
def s_IsPuzzle_L1 (N : Nat) (v0 : Gx.Puzzle) (p1 : Int) : Option (Sum (Int) (Cut (Unit) (Bool))) :=
 sel (decide (p1 < (v0.mClues.length : Int)))
  (bnd (getI v0.mClues p1) fun x1 =>
  bnd (s_IsClue N x1) fun x2 =>
  sel (!x2)
   (some (.inr (.rt (false))))
   (some (.inl (w64 (p1 + 1)))))
  (some (.inr (.nx ())))
def s_IsPuzzle (N : Nat) (v0 : Gx.Puzzle) : Option (Bool) :=
 cutb (α := Unit) (
  loopN (s_IsPuzzle_L1 N v0) N 0) fun t3 =>
 bnd (s_SlotsOf N v0.mGrid) fun x4 =>
 bnd (s_FormOf N v0.mGrid) fun x5 =>
 sel (x5 == 0)
  (sel ((v0.mClues.length : Int) == (x4.length : Int))
   (sel ((v0.mSeals.length : Int) == (x4.length : Int))
    (bnd (s_l1In N v0.mSalt 1 9999) fun x6 =>
    some x6)
    (some false))
   (some false))
  (some false)
def s_IsFill_L1 (N : Nat) (v1 : List UInt8) (v0 : Gx.Grid) (p1 : Int) : Option (Sum (Int) (Cut (Unit) (Bool))) :=
 sel (decide (p1 < (v1.length : Int)))
  (bnd (α := Bool) (
   chk (0 ≤ p1 ∧ p1 < (v1.length : Int)) <|
   sel ((byteI v1 p1) == 63)
    (some true)
    (chk (0 ≤ p1 ∧ p1 < (v1.length : Int)) <|
    sel (decide ((byteI v1 p1) ≥ 97))
     (chk (0 ≤ p1 ∧ p1 < (v1.length : Int)) <|
     some (decide ((byteI v1 p1) ≤ 122)))
     (some false))) fun t2 =>
  chk (0 ≤ p1 ∧ p1 < (v0.mCells.length : Int)) <|
  sel ((byteI v0.mCells p1) == 35)
   (chk (0 ≤ p1 ∧ p1 < (v1.length : Int)) <|
   sel ((byteI v1 p1) != 35)
    (some (.inr (.rt (false))))
    (chk (0 ≤ p1 ∧ p1 < (v0.mCells.length : Int)) <|
    sel ((byteI v0.mCells p1) == 46)
     (sel (!t2)
      (some (.inr (.rt (false))))
      (some (.inl (w64 (p1 + 1)))))
     (some (.inl (w64 (p1 + 1))))))
   (chk (0 ≤ p1 ∧ p1 < (v0.mCells.length : Int)) <|
   sel ((byteI v0.mCells p1) == 46)
    (sel (!t2)
     (some (.inr (.rt (false))))
     (some (.inl (w64 (p1 + 1)))))
    (some (.inl (w64 (p1 + 1))))))
  (some (.inr (.nx ())))
def s_IsFill (N : Nat) (v0 : Gx.Grid) (v1 : List UInt8) : Option (Bool) :=
 bnd (s_IsGrid N v0) fun x1 =>
 sel (!x1)
  (some false)
  (sel ((v1.length : Int) != (v0.mCells.length : Int))
   (some false)
   (cutb (α := Unit) (
    loopN (s_IsFill_L1 N v1 v0) N 0) fun t3 =>
   some true))
def s_l11Open_L1 (N : Nat) (v0 : List UInt8) (p1 : Int) : Option (Sum (Int) (Cut (Unit) (Bool))) :=
 sel (decide (p1 < (v0.length : Int)))
  (chk (0 ≤ p1 ∧ p1 < (v0.length : Int)) <|
  sel ((byteI v0 p1) == 63)
   (some (.inr (.rt (true))))
   (some (.inl (w64 (p1 + 1)))))
  (some (.inr (.nx ())))
def s_l11Open (N : Nat) (v0 : List UInt8) : Option (Bool) :=
 cutb (α := Unit) (
  loopN (s_l11Open_L1 N v0) N 0) fun t1 =>
 some false
def s_IsFull (N : Nat) (v0 : Gx.Grid) (v1 : List UInt8) : Option (Bool) :=
 bnd (s_IsFill N v0 v1) fun x1 =>
 sel (x1)
  (bnd (s_l11Open N v1) fun x2 =>
  some !x2)
  (some false)
def s_SlotPattern_L1 (N : Nat) (x5 : (List (Int))) (v1 : List UInt8) (p1 : (List UInt8) × Int) : Option (Sum ((List UInt8) × Int) ((List UInt8))) :=
 sel (decide (p1.2 < (x5.length : Int)))
  (bnd (getI x5 p1.2) fun x6 =>
  bnd (getI x5 p1.2) fun x7 =>
  chk (0 ≤ x6 ∧ x6 ≤ (w64 (x7 + 1)) ∧ (w64 (x7 + 1)) ≤ (v1.length : Int)) <|
  chk (p1.1.length + (sub v1 x6 (w64 (x7 + 1))).length ≤ 274877906944) <|
  some (.inl (p1.1 ++ (sub v1 x6 (w64 (x7 + 1))), w64 (p1.2 + 1))))
  (some (.inr (p1.1)))
def s_SlotPattern (N : Nat) (v0 : Gx.Grid) (v1 : List UInt8) (v2 : Int) : Option ((List UInt8)) :=
 bnd (s_SlotsOf N v0) fun x1 =>
 bnd (s_IsFill N v0 v1) fun x2 =>
 sel (!x2)
  (some ([] : List UInt8))
  (bnd (s_l1In N v2 0 (w64 ((x1.length : Int) - 1))) fun x3 =>
  sel (!x3)
   (some ([] : List UInt8))
   (bnd (getI x1 v2) fun x4 =>
   bnd (s_CellsOf N v0 x4) fun x5 =>
   bnd (α := (List UInt8)) (
    loopN (s_SlotPattern_L1 N x5 v1) N (([] : List UInt8), 0)) fun t8 =>
   some t8))
def s_LettersOf_L1 (N : Nat) (v0 : List UInt8) (p1 : (List (Int)) × Int) : Option (Sum ((List (Int)) × Int) ((List (Int)))) :=
 sel (decide (p1.2 < (v0.length : Int)))
  (chk (0 ≤ p1.2 ∧ p1.2 < (v0.length : Int)) <|
  chk (p1.1.length + ([w64 (byteI v0 p1.2)]).length ≤ 274877906944) <|
  some (.inl (p1.1 ++ ([w64 (byteI v0 p1.2)]), w64 (p1.2 + 1))))
  (some (.inr (p1.1)))
def s_LettersOf (N : Nat) (v0 : List UInt8) : Option ((List (Int))) :=
 bnd (α := (List (Int))) (
  loopN (s_LettersOf_L1 N v0) N ([], 0)) fun t1 =>
 some t1
def s_Mod (N : Nat) (v0 : Int) (v1 : Int) : Option (Int) :=
 bnd (s_l1In N v1 1 1000000000000) fun x1 =>
 sel (!x1)
  (some 0)
  (chk ((v1 : Int) ≠ 0) <|
  chk ((v1 : Int) ≠ 0) <|
  some (Int.tmod (w64 ((Int.tmod v0 v1) + v1)) v1))
def s_Hash_L1 (N : Nat) (v0 : List (Int)) (p1 : Int × Int) : Option (Sum (Int × Int) (Int)) :=
 sel (decide (p1.2 < (v0.length : Int)))
  (bnd (getI v0 p1.2) fun x1 =>
  bnd (s_Mod N x1 2147483647) fun x2 =>
  chk ((2147483647 : Int) ≠ 0) <|
  some (.inl (Int.tmod (w64 ((w64 ((w64 (p1.1 * 1000003)) + x2)) + 13)) 2147483647, w64 (p1.2 + 1))))
  (some (.inr (p1.1)))
def s_Hash (N : Nat) (v0 : List (Int)) : Option (Int) :=
 bnd (α := Int) (
  loopN (s_Hash_L1 N v0) N (11, 0)) fun t3 =>
 some t3
def s_SealAnswer (N : Nat) (v0 : Int) (v1 : Int) (v2 : List UInt8) : Option (Int) :=
 bnd (s_IsWord N v2) fun x1 =>
 sel (!x1)
  (some 0)
  (bnd (s_LettersOf N v2) fun x2 =>
  chk (([v0, v1, (v2.length : Int)]).length + x2.length ≤ 274877906944) <|
  bnd (s_Hash N (([v0, v1, (v2.length : Int)]) ++ x2)) fun x3 =>
  some x3)
def s_ChecksAnswer (N : Nat) (v0 : List (Int)) (v1 : Int) (v2 : Int) (v3 : List UInt8) : Option (Bool) :=
 bnd (s_l1In N v2 0 (w64 ((v0.length : Int) - 1))) fun x1 =>
 sel (x1)
  (bnd (s_IsWord N v3) fun x2 =>
  sel (x2)
   (bnd (s_SealAnswer N v1 v2 v3) fun x3 =>
   bnd (getI v0 v2) fun x4 =>
   some (x3 == x4))
   (some false))
  (some false)
def s_RightSlots_L1 (N : Nat) (x1 : (List (Gx.Slot))) (v0 : Gx.Grid) (v1 : List UInt8) (v2 : List (Int)) (v3 : Int) (p1 : (List (Int)) × Int) : Option (Sum ((List (Int)) × Int) ((List (Int)))) :=
 sel (decide (p1.2 < (x1.length : Int)))
  (bnd (s_IsFill N v0 v1) fun x2 =>
  sel (x2)
   (bnd (s_SlotPattern N v0 v1 p1.2) fun x3 =>
   bnd (s_ChecksAnswer N v2 v3 p1.2 x3) fun x4 =>
   sel (x4)
    (chk (p1.1.length + ([p1.2]).length ≤ 274877906944) <|
    some (.inl (p1.1 ++ ([p1.2]), w64 (p1.2 + 1))))
    (some (.inl (p1.1, w64 (p1.2 + 1)))))
   (some (.inr (p1.1))))
  (some (.inr (p1.1)))
def s_RightSlots (N : Nat) (v0 : Gx.Grid) (v1 : List UInt8) (v2 : List (Int)) (v3 : Int) : Option ((List (Int))) :=
 bnd (s_SlotsOf N v0) fun x1 =>
 bnd (α := (List (Int))) (
  loopN (s_RightSlots_L1 N x1 v0 v1 v2 v3) N ([], 0)) fun t5 =>
 some t5
def s_IsSolved (N : Nat) (v0 : Gx.Puzzle) (v1 : List UInt8) : Option (Bool) :=
 bnd (s_IsPuzzle N v0) fun x1 =>
 sel (x1)
  (bnd (s_IsFull N v0.mGrid v1) fun x2 =>
  sel (x2)
   (bnd (s_RightSlots N v0.mGrid v1 v0.mSeals v0.mSalt) fun x3 =>
   some ((x3.length : Int) == (v0.mClues.length : Int)))
   (some false))
  (some false)
def s_IsIssue (N : Nat) (v0 : Gx.Issue) : Option (Bool) :=
 bnd (s_l1In N v0.mNumber 1 999) fun x1 =>
 sel (x1)
  (bnd (s_IsSolved N v0.mPuzzle v0.mFill) fun x2 =>
  sel (x2)
   (sel (decide (v0.mOpen ≥ 0))
    (sel (decide (v0.mOpen < v0.mClose))
     (some (decide (v0.mClose ≤ 1000)))
     (some false))
    (some false))
   (some false))
  (some false)
def s_EmptyFill_L1 (N : Nat) (v0 : Gx.Grid) (p1 : (List UInt8) × Int) : Option (Sum ((List UInt8) × Int) ((List UInt8))) :=
 sel (decide (p1.2 < (v0.mCells.length : Int)))
  (bnd (s_IsGrid N v0) fun x1 =>
  sel (x1)
   (chk (0 ≤ p1.2 ∧ p1.2 < (v0.mCells.length : Int)) <|
   sel ((byteI v0.mCells p1.2) == 35)
    (chk (p1.1.length + ([35] : List UInt8).length ≤ 274877906944) <|
    some (.inl (p1.1 ++ ([35] : List UInt8), w64 (p1.2 + 1))))
    (chk (p1.1.length + ([63] : List UInt8).length ≤ 274877906944) <|
    some (.inl (p1.1 ++ ([63] : List UInt8), w64 (p1.2 + 1)))))
   (some (.inr (p1.1))))
  (some (.inr (p1.1)))
def s_EmptyFill (N : Nat) (v0 : Gx.Grid) : Option ((List UInt8)) :=
 bnd (α := (List UInt8)) (
  loopN (s_EmptyFill_L1 N v0) N (([] : List UInt8), 0)) fun t2 =>
 some t2
def s_SolutionAt (N : Nat) (v0 : Gx.Issue) (v1 : Int) : Option ((List UInt8)) :=
 bnd (s_IsIssue N v0) fun x1 =>
 sel (!x1)
  (some ([] : List UInt8))
  (sel (decide (v1 ≥ v0.mClose))
   (some v0.mFill)
   (bnd (s_EmptyFill N v0.mPuzzle.mGrid) fun x2 =>
   some x2))
def s_ShownAt_L1 (N : Nat) (v0 : Gx.Issue) (v1 : Int) (p1 : Unit) : Option (Sum (Unit) (Unit)) :=
 sel (decide (0 < (v0.mPuzzle.mClues.length : Int)))
  (sel (decide (v1 ≥ v0.mOpen))
   (bnd (s_IsIssue N v0) fun x1 =>
   sel (x1)
    (bnd (getI v0.mPuzzle.mClues 0) fun x2 =>
    none)
    (some (.inr (()))))
   (some (.inr (()))))
  (some (.inr (())))
def s_ShownAt (N : Nat) (v0 : Gx.Issue) (v1 : Int) : Option ((List (List UInt8))) :=
 bnd (α := Unit) (
  loopN (s_ShownAt_L1 N v0 v1) N ()) fun t4 =>
 some ([])
def s_IsQuiet_L1 (N : Nat) (v0 : Gx.House) (p1 : Int) : Option (Sum (Int) (Cut (Unit) (Bool))) :=
 sel (decide (p1 < (v0.mIssues.length : Int)))
  (bnd (getI v0.mIssues p1) fun x1 =>
  sel (decide (v0.mNow < x1.mClose))
   (bnd (s_SolutionAt N x1 v0.mNow) fun x2 =>
   bnd (s_EmptyFill N x1.mPuzzle.mGrid) fun x3 =>
   sel (x2 != x3)
    (some (.inr (.rt (false))))
    (sel (decide (v0.mNow < x1.mOpen))
     (bnd (s_ShownAt N x1 v0.mNow) fun x4 =>
     sel (decide ((x4.length : Int) > 0))
      (some (.inr (.rt (false))))
      (some (.inl (w64 (p1 + 1)))))
     (some (.inl (w64 (p1 + 1))))))
   (sel (decide (v0.mNow < x1.mOpen))
    (bnd (s_ShownAt N x1 v0.mNow) fun x5 =>
    sel (decide ((x5.length : Int) > 0))
     (some (.inr (.rt (false))))
     (some (.inl (w64 (p1 + 1)))))
    (some (.inl (w64 (p1 + 1))))))
  (some (.inr (.nx ())))
def s_IsQuiet (N : Nat) (v0 : Gx.House) : Option (Bool) :=
 cutb (α := Unit) (
  loopN (s_IsQuiet_L1 N v0) N 0) fun t6 =>
 some true
def i_InRange (N : Nat) (v0 : Int) (v1 : Int) (v2 : Int) : Option (Bool) :=
 sel (decide (v1 ≤ v0))
  (some (decide (v0 ≤ v2)))
  (some false)
def i_IsGrid_L1 (N : Nat) (v0 : Gx.Grid) (p1 : Int) : Option (Sum (Int) (Cut (Unit) (Bool))) :=
 sel (decide (p1 < (v0.mCells.length : Int)))
  (chk (0 ≤ p1 ∧ p1 < (v0.mCells.length : Int)) <|
  sel ((byteI v0.mCells p1) != 35)
   (chk (0 ≤ p1 ∧ p1 < (v0.mCells.length : Int)) <|
   sel ((byteI v0.mCells p1) != 46)
    (some (.inr (.rt (false))))
    (some (.inl (w64 (p1 + 1)))))
   (some (.inl (w64 (p1 + 1)))))
  (some (.inr (.nx ())))
def i_IsGrid (N : Nat) (v0 : Gx.Grid) : Option (Bool) :=
 bnd (i_InRange N v0.mRows 2 6) fun x1 =>
 sel (!x1)
  (some false)
  (bnd (i_InRange N v0.mCols 2 6) fun x2 =>
  sel (!x2)
   (some false)
   (sel ((v0.mCells.length : Int) != (w64 (v0.mRows * v0.mCols)))
    (some false)
    (cutb (α := Unit) (
     loopN (i_IsGrid_L1 N v0) N 0) fun t3 =>
    some true)))
def g_slices_Reverse_Sbyte_byte_L1 (N : Nat) (p1 : (List (UInt8)) × Int × Int) : Option (Sum ((List (UInt8)) × Int × Int) ((List (UInt8)))) :=
 sel (decide (p1.2.1 < p1.2.2))
  (bnd (getI p1.1 p1.2.2) fun x1 =>
  bnd (getI p1.1 p1.2.1) fun x2 =>
  bnd (getI p1.1 p1.2.1) fun x3 =>
  bnd (getI (List.set p1.1 (Int.toNat p1.2.1) x1) p1.2.2) fun x4 =>
  some (.inl (List.set (List.set p1.1 (Int.toNat p1.2.1) x1) (Int.toNat p1.2.2) x2, w64 (p1.2.1 + 1), w64 (p1.2.2 - 1))))
  (some (.inr (p1.1)))
def g_slices_Reverse_Sbyte_byte (N : Nat) (v0 : List (UInt8)) : Option ((List (UInt8))) :=
 loopN (g_slices_Reverse_Sbyte_byte_L1 N) N (v0, 0, w64 ((v0.length : Int) - 1))
def i_Backwards (N : Nat) (v0 : List UInt8) : Option ((List UInt8)) :=
 sel (decide ((v0.length : Int) > 100))
  (some ([] : List UInt8))
  (chk ((v0).length ≤ 274877906944) <|
  bnd (g_slices_Reverse_Sbyte_byte N v0) fun x1 =>
  some x1)
def i_TurnGrid (N : Nat) (v0 : Gx.Grid) : Option (Gx.Grid) :=
 bnd (i_IsGrid N v0) fun x1 =>
 sel (!x1)
  (some (⟨0, 0, ([] : List UInt8)⟩ : Gx.Grid))
  (bnd (i_Backwards N v0.mCells) fun x2 =>
  some (⟨v0.mRows, v0.mCols, x2⟩ : Gx.Grid))
def i_IsSymmetric (N : Nat) (v0 : Gx.Grid) : Option (Bool) :=
 bnd (i_IsGrid N v0) fun x1 =>
 sel (x1)
  (bnd (i_TurnGrid N v0) fun x2 =>
  some (v0.mRows == x2.mRows && (v0.mCols == x2.mCols && (v0.mCells == x2.mCells && true))))
  (some false)
def i_at (N : Nat) (v0 : Int) (v1 : Int) : Option (Bool) :=
 sel (decide (v0 ≥ 0))
  (some (decide (v0 < v1)))
  (some false)
def i_PartsOf_1_B (N : Nat) (r_i_PartsOf_1 : Int → Int → Gx.Grid → (List (Bool)) → Option ((List (Bool)))) (v0 : Int) (v1 : Int) (c0 : Gx.Grid) (c1 : List (Bool)) : Option ((List (Bool))) :=
 bnd (i_at N v0 c0.mRows) fun x1 =>
 sel (!x1)
  (some c1)
  (bnd (i_at N v1 c0.mCols) fun x2 =>
  sel (!x2)
   (some c1)
   (bnd (getI c1 (w64 ((w64 (v0 * c0.mCols)) + v1))) fun x3 =>
   sel (x3)
    (some c1)
    (chk (0 ≤ (w64 ((w64 (v0 * c0.mCols)) + v1)) ∧ (w64 ((w64 (v0 * c0.mCols)) + v1)) < (c0.mCells.length : Int)) <|
    sel ((byteI c0.mCells (w64 ((w64 (v0 * c0.mCols)) + v1))) != 46)
     (some c1)
     (bnd (getI c1 (w64 ((w64 (v0 * c0.mCols)) + v1))) fun x4 =>
     bnd (r_i_PartsOf_1 (w64 (v0 - 1)) v1 c0 (List.set c1 (Int.toNat (w64 ((w64 (v0 * c0.mCols)) + v1))) true)) fun x5 =>
     bnd (r_i_PartsOf_1 (w64 (v0 + 1)) v1 c0 x5) fun x6 =>
     bnd (r_i_PartsOf_1 v0 (w64 (v1 - 1)) c0 x6) fun x7 =>
     bnd (r_i_PartsOf_1 v0 (w64 (v1 + 1)) c0 x7) fun x8 =>
     some x8))))
def i_PartsOf_1_R (N : Nat) : Nat → Int → Int → Gx.Grid → (List (Bool)) → Option ((List (Bool)))
 | 0, _, _, _, _ => none
 | n + 1, a0, a1, a2, a3 => i_PartsOf_1_B N (i_PartsOf_1_R N n) a0 a1 a2 a3
def i_PartsOf_1 (N : Nat) (v0 : Int) (v1 : Int) (v2 : Gx.Grid) (v3 : List (Bool)) : Option ((List (Bool))) := i_PartsOf_1_R N N v0 v1 v2 v3
def i_PartsOf_L1 (N : Nat) (v0 : Gx.Grid) (p1 : (List (Bool)) × Int × Int) : Option (Sum ((List (Bool)) × Int × Int) (Int)) :=
 sel (decide (p1.2.2 < (v0.mCells.length : Int)))
  (bnd (α := Bool) (
   chk (0 ≤ p1.2.2 ∧ p1.2.2 < (v0.mCells.length : Int)) <|
   sel ((byteI v0.mCells p1.2.2) == 46)
    (bnd (getI p1.1 p1.2.2) fun x2 =>
    some !x2)
    (some false)) fun t3 =>
  sel (t3)
   (chk ((v0.mCols : Int) ≠ 0) <|
   chk ((v0.mCols : Int) ≠ 0) <|
   bnd (i_PartsOf_1 N (w64 (Int.tdiv p1.2.2 v0.mCols)) (Int.tmod p1.2.2 v0.mCols) v0 p1.1) fun x4 =>
   some (.inl (x4, w64 (p1.2.1 + 1), w64 (p1.2.2 + 1))))
   (some (.inl (p1.1, p1.2.1, w64 (p1.2.2 + 1)))))
  (some (.inr (p1.2.1)))
def i_PartsOf (N : Nat) (v0 : Gx.Grid) : Option (Int) :=
 bnd (i_IsGrid N v0) fun x1 =>
 sel (!x1)
  (some 0)
  (chk (0 ≤ (v0.mCells.length : Int) ∧ (v0.mCells.length : Int) ≤ 274877906944) <|
  bnd (α := Int) (
   loopN (i_PartsOf_L1 N v0) N (List.replicate (Int.toNat (v0.mCells.length : Int)) false, 0, 0)) fun t5 =>
  some t5)
def i_IsConnected (N : Nat) (v0 : Gx.Grid) : Option (Bool) :=
 bnd (i_PartsOf N v0) fun x1 =>
 some (x1 == 1)
def i_run_L1 (N : Nat) (t1 : Int × Int × Int) (v1 : Int) (v0 : Gx.Grid) (p1 : Int) : Option (Sum (Int) (Int)) :=
 sel (decide ((w64 (t1.2.1 + p1)) < t1.2.2))
  (chk (0 ≤ (w64 (v1 + (w64 (p1 * t1.1)))) ∧ (w64 (v1 + (w64 (p1 * t1.1)))) < (v0.mCells.length : Int)) <|
  sel ((byteI v0.mCells (w64 (v1 + (w64 (p1 * t1.1))))) == 46)
   (some (.inl (w64 (p1 + 1))))
   (some (.inr (p1))))
  (some (.inr (p1)))
def i_run (N : Nat) (v0 : Gx.Grid) (v1 : Int) (v2 : Bool) : Option (Int) :=
 chk ((v0.mCols : Int) ≠ 0) <|
 bnd (α := Int × Int × Int) (
  sel (v2)
   (chk ((v0.mCols : Int) ≠ 0) <|
   some (v0.mCols, w64 (Int.tdiv v1 v0.mCols), v0.mRows))
   (some (1, Int.tmod v1 v0.mCols, v0.mCols))) fun t1 =>
 cutb (α := Unit) (
  chk (0 ≤ v1 ∧ v1 < (v0.mCells.length : Int)) <|
  sel ((byteI v0.mCells v1) != 46)
   (some (.rt (0)))
   (sel (decide (t1.2.1 > 0))
    (chk (0 ≤ (w64 (v1 - t1.1)) ∧ (w64 (v1 - t1.1)) < (v0.mCells.length : Int)) <|
    sel ((byteI v0.mCells (w64 (v1 - t1.1))) == 46)
     (some (.rt (0)))
     (some (.nx ())))
    (some (.nx ())))) fun t2 =>
 bnd (α := Int) (
  loopN (i_run_L1 N t1 v1 v0) N 0) fun t3 =>
 some t3
def i_SlotsOf_L1 (N : Nat) (v0 : Gx.Grid) (p1 : (List (Gx.Slot)) × Int × Int) : Option (Sum ((List (Gx.Slot)) × Int × Int) ((List (Gx.Slot)))) :=
 sel (decide (p1.2.2 < (v0.mCells.length : Int)))
  (bnd (i_run N v0 p1.2.2 false) fun x2 =>
  bnd (i_run N v0 p1.2.2 true) fun x3 =>
  bnd (α := Int) (
   sel (decide (x2 ≥ 2))
    (some (w64 (p1.2.1 + 1)))
    (sel (decide (x3 ≥ 2))
     (some (w64 (p1.2.1 + 1)))
     (some p1.2.1))) fun t4 =>
  bnd (α := (List (Gx.Slot))) (
   sel (decide (x2 ≥ 2))
    (chk (p1.1.length + ([(⟨t4, false, p1.2.2, x2⟩ : Gx.Slot)]).length ≤ 274877906944) <|
    some (p1.1 ++ ([(⟨t4, false, p1.2.2, x2⟩ : Gx.Slot)])))
    (some p1.1)) fun t5 =>
  sel (decide (x3 ≥ 2))
   (chk (t5.length + ([(⟨t4, true, p1.2.2, x3⟩ : Gx.Slot)]).length ≤ 274877906944) <|
   some (.inl (t5 ++ ([(⟨t4, true, p1.2.2, x3⟩ : Gx.Slot)]), t4, w64 (p1.2.2 + 1))))
   (some (.inl (t5, t4, w64 (p1.2.2 + 1)))))
  (some (.inr (p1.1)))
def i_SlotsOf (N : Nat) (v0 : Gx.Grid) : Option ((List (Gx.Slot))) :=
 bnd (i_IsGrid N v0) fun x1 =>
 sel (!x1)
  (some ([]))
  (bnd (α := (List (Gx.Slot))) (
   loopN (i_SlotsOf_L1 N v0) N ([], 0, 0)) fun t6 =>
  some t6)
def i_cells_L1 (N : Nat) (v1 : Gx.Slot) (t1 : Int) (p1 : (List (Int)) × Int) : Option (Sum ((List (Int)) × Int) ((List (Int)))) :=
 sel (decide (p1.2 < v1.mLength))
  (chk (p1.1.length + ([w64 (v1.mCell + (w64 (p1.2 * t1)))]).length ≤ 274877906944) <|
  some (.inl (p1.1 ++ ([w64 (v1.mCell + (w64 (p1.2 * t1)))]), w64 (p1.2 + 1))))
  (some (.inr (p1.1)))
def i_cells (N : Nat) (v0 : Gx.Grid) (v1 : Gx.Slot) : Option ((List (Int))) :=
 bnd (α := Int) (
  sel (v1.mDown)
   (some v0.mCols)
   (some 1)) fun t1 =>
 bnd (α := (List (Int))) (
  loopN (i_cells_L1 N v1 t1) N ([], 0)) fun t2 =>
 some t2
def i_layout_L1 (N : Nat) (x1 : (List (Gx.Slot))) (v0 : Gx.Grid) (p1 : (List (List (Int))) × Int) : Option (Sum ((List (List (Int))) × Int) ((List (List (Int))))) :=
 sel (decide (p1.2 < (x1.length : Int)))
  (bnd (getI x1 p1.2) fun x2 =>
  bnd (i_cells N v0 x2) fun x3 =>
  chk (p1.1.length + ([x3]).length ≤ 274877906944) <|
  some (.inl (p1.1 ++ ([x3]), w64 (p1.2 + 1))))
  (some (.inr (p1.1)))
def i_layout (N : Nat) (v0 : Gx.Grid) : Option ((List (List (Int)))) :=
 bnd (α := (List (List (Int)))) (
  bnd (i_SlotsOf N v0) fun x1 =>
  loopN (i_layout_L1 N x1 v0) N ([], 0)) fun t4 =>
 some t4
def g_slices_Index_Sint_int_L1 (N : Nat) (v0 : List (Int)) (v1 : Int) (p1 : Int) : Option (Sum (Int) (Cut (Unit) (Int))) :=
 sel (decide (p1 < (v0.length : Int)))
  (bnd (getI v0 p1) fun x1 =>
  sel (v1 == x1)
   (some (.inr (.rt (p1))))
   (some (.inl (w64 (p1 + 1)))))
  (some (.inr (.nx ())))
def g_slices_Index_Sint_int (N : Nat) (v0 : List (Int)) (v1 : Int) : Option (Int) :=
 cutb (α := Unit) (
  loopN (g_slices_Index_Sint_int_L1 N v0 v1) N 0) fun t2 =>
 some (-1)
def g_slices_Contains_Sint_int (N : Nat) (v0 : List (Int)) (v1 : Int) : Option (Bool) :=
 bnd (g_slices_Index_Sint_int N v0 v1) fun x1 =>
 some (decide (x1 ≥ 0))
def i_SlotsAt_L1 (N : Nat) (x1 : (List (List (Int)))) (v1 : Int) (p1 : (List (Int)) × Int) : Option (Sum ((List (Int)) × Int) ((List (Int)))) :=
 sel (decide (p1.2 < (x1.length : Int)))
  (bnd (getI x1 p1.2) fun x2 =>
  bnd (g_slices_Contains_Sint_int N x2 v1) fun x3 =>
  sel (x3)
   (chk (p1.1.length + ([p1.2]).length ≤ 274877906944) <|
   some (.inl (p1.1 ++ ([p1.2]), w64 (p1.2 + 1))))
   (some (.inl (p1.1, w64 (p1.2 + 1)))))
  (some (.inr (p1.1)))
def i_SlotsAt (N : Nat) (v0 : Gx.Grid) (v1 : Int) : Option ((List (Int))) :=
 bnd (α := (List (Int))) (
  bnd (i_layout N v0) fun x1 =>
  loopN (i_SlotsAt_L1 N x1 v1) N ([], 0)) fun t4 =>
 some t4
def i_IsChecked (N : Nat) (v0 : Gx.Grid) (v1 : Int) : Option (Bool) :=
 bnd (i_SlotsAt N v0 v1) fun x1 =>
 some ((x1.length : Int) == 2)
def i_UncheckedIn_L1 (N : Nat) (x3 : List (Int)) (v0 : Gx.Grid) (p1 : Int × Int) : Option (Sum (Int × Int) (Int)) :=
 sel (decide (p1.2 < (x3.length : Int)))
  (bnd (getI x3 p1.2) fun x4 =>
  bnd (i_IsChecked N v0 x4) fun x5 =>
  sel (!x5)
   (some (.inl (w64 (p1.1 + 1), w64 (p1.2 + 1))))
   (some (.inl (p1.1, w64 (p1.2 + 1)))))
  (some (.inr (p1.1)))
def i_UncheckedIn (N : Nat) (v0 : Gx.Grid) (v1 : Int) : Option (Int) :=
 bnd (i_layout N v0) fun x1 =>
 bnd (i_at N v1 (x1.length : Int)) fun x2 =>
 sel (!x2)
  (some (-1))
  (bnd (α := Int) (
   bnd (getI x1 v1) fun x3 =>
   loopN (i_UncheckedIn_L1 N x3 v0) N (0, 0)) fun t6 =>
  some t6)
def i_isLetter (N : Nat) (v0 : Int) : Option (Bool) :=
 sel (decide (v0 ≥ 97))
  (some (decide (v0 ≤ 122)))
  (some false)
def i_alone_L2 (N : Nat) (x2 : List (Int)) (p2 : (List (Int × Int)) × Int) : Option (Sum ((List (Int × Int)) × Int) ((List (Int × Int)))) :=
 sel (decide (p2.2 < (x2.length : Int)))
  (bnd (getI x2 p2.2) fun x3 =>
  some (.inl (mput x3 1 p2.1, w64 (p2.2 + 1))))
  (some (.inr (p2.1)))
def i_alone_L1 (N : Nat) (x1 : (List (List (Int)))) (p1 : (List (Int × Int)) × Int) : Option (Sum ((List (Int × Int)) × Int) ((List (Int × Int)))) :=
 sel (decide (p1.2 < (x1.length : Int)))
  (bnd (α := (List (Int × Int))) (
   bnd (getI x1 p1.2) fun x2 =>
   loopN (i_alone_L2 N x2) N (p1.1, 0)) fun t4 =>
  some (.inl (t4, w64 (p1.2 + 1))))
  (some (.inr (p1.1)))
def i_alone_L3 (N : Nat) (v0 : Gx.Grid) (t5 : (List (Int × Int))) (v1 : List UInt8) (p3 : Int) : Option (Sum (Int) (Cut (Unit) (Bool))) :=
 sel (decide (p3 < (v0.mCells.length : Int)))
  (chk (0 ≤ p3 ∧ p3 < (v0.mCells.length : Int)) <|
  sel ((byteI v0.mCells p3) == 46)
   (sel ((mget p3 t5) == 0)
    (chk (0 ≤ p3 ∧ p3 < (v1.length : Int)) <|
    bnd (i_isLetter N (byteI v1 p3)) fun x6 =>
    sel (!x6)
     (some (.inr (.rt (true))))
     (some (.inl (w64 (p3 + 1)))))
    (some (.inl (w64 (p3 + 1)))))
   (some (.inl (w64 (p3 + 1)))))
  (some (.inr (.nx ())))
def i_alone (N : Nat) (v0 : Gx.Grid) (v1 : List UInt8) : Option (Bool) :=
 bnd (α := (List (Int × Int))) (
  bnd (i_layout N v0) fun x1 =>
  loopN (i_alone_L1 N x1) N (([] : List (Int × Int)), 0)) fun t5 =>
 cutb (α := Unit) (
  loopN (i_alone_L3 N v0 t5 v1) N 0) fun t7 =>
 some false
def i_FormOf_L1 (N : Nat) (x4 : (List (Gx.Slot))) (p1 : Int) : Option (Sum (Int) (Cut (Unit) (Int))) :=
 sel (decide (p1 < (x4.length : Int)))
  (bnd (getI x4 p1) fun x5 =>
  sel (decide (x5.mLength < 3))
   (some (.inr (.rt (4))))
   (some (.inl (w64 (p1 + 1)))))
  (some (.inr (.nx ())))
def i_FormOf_L2 (N : Nat) (x4 : (List (Gx.Slot))) (v0 : Gx.Grid) (p2 : Int) : Option (Sum (Int) (Cut (Unit) (Int))) :=
 sel (decide (p2 < (x4.length : Int)))
  (bnd (getI x4 p2) fun x7 =>
  bnd (i_UncheckedIn N v0 p2) fun x8 =>
  sel (decide ((w64 (2 * x8)) > x7.mLength))
   (some (.inr (.rt (5))))
   (some (.inl (w64 (p2 + 1)))))
  (some (.inr (.nx ())))
def i_FormOf (N : Nat) (v0 : Gx.Grid) : Option (Int) :=
 bnd (i_IsGrid N v0) fun x1 =>
 sel (!x1)
  (some 1)
  (bnd (i_IsSymmetric N v0) fun x2 =>
  sel (!x2)
   (some 2)
   (bnd (i_IsConnected N v0) fun x3 =>
   sel (!x3)
    (some 3)
    (bnd (i_SlotsOf N v0) fun x4 =>
    cutb (α := Unit) (
     loopN (i_FormOf_L1 N x4) N 0) fun t6 =>
    cutb (α := Unit) (
     loopN (i_FormOf_L2 N x4 v0) N 0) fun t9 =>
    bnd (i_alone N v0 v0.mCells) fun x10 =>
    sel (x10)
     (some 5)
     (some 0))))
def i_IsWord_L1 (N : Nat) (v0 : List UInt8) (p1 : Int) : Option (Sum (Int) (Cut (Unit) (Bool))) :=
 sel (decide (p1 < (v0.length : Int)))
  (chk (0 ≤ p1 ∧ p1 < (v0.length : Int)) <|
  bnd (i_isLetter N (byteI v0 p1)) fun x2 =>
  sel (!x2)
   (some (.inr (.rt (false))))
   (some (.inl (w64 (p1 + 1)))))
  (some (.inr (.nx ())))
def i_IsWord (N : Nat) (v0 : List UInt8) : Option (Bool) :=
 bnd (i_InRange N (v0.length : Int) 1 8) fun x1 =>
 sel (!x1)
  (some false)
  (cutb (α := Unit) (
   loopN (i_IsWord_L1 N v0) N 0) fun t3 =>
  some true)
def i_needsWord (N : Nat) (v0 : Int) : Option (Bool) :=
 sel (v0 == 3)
  (some true)
  (some (decide (v0 ≥ 6)))
def i_isPair (N : Nat) (v0 : Int) : Option (Bool) :=
 sel (v0 == 4)
  (some true)
  (some (v0 == 5))
def i_IsPlay_L1 (N : Nat) (v0 : List (Gx.Step)) (p1 : Int) : Option (Sum (Int) (Cut (Unit) (Bool))) :=
 sel (decide (p1 < (v0.length : Int)))
  (bnd (getI v0 p1) fun x2 =>
  bnd (i_InRange N x2.mKind 1 9) fun x3 =>
  sel (!x3)
   (some (.inr (.rt (false))))
   (sel (x2.mKind == 1)
    (bnd (i_IsWord N x2.mWord) fun x4 =>
    sel (!x4)
     (some (.inr (.rt (false))))
     (sel (x2.mA != 0)
      (some (.inr (.rt (false))))
      (sel (x2.mB != 0)
       (some (.inr (.rt (false))))
       (some (.inl (w64 (p1 + 1)))))))
    (cutb (α := Unit) (
     sel (x2.mWord != ([] : List UInt8))
      (some (.rt (.inr (.rt (false)))))
      (bnd (i_at N x2.mA p1) fun x5 =>
      sel (!x5)
       (some (.rt (.inr (.rt (false)))))
       (bnd (i_needsWord N x2.mKind) fun x6 =>
       sel (x6)
        (bnd (getI v0 x2.mA) fun x7 =>
        sel (x7.mKind != 1)
         (some (.rt (.inr (.rt (false)))))
         (some (.nx ())))
        (some (.nx ()))))) fun t8 =>
    bnd (i_isPair N x2.mKind) fun x9 =>
    sel (x9)
     (bnd (i_at N x2.mB p1) fun x10 =>
     sel (!x10)
      (some (.inr (.rt (false))))
      (bnd (i_isPair N x2.mKind) fun x11 =>
      sel (!x11)
       (sel (x2.mB != 0)
        (some (.inr (.rt (false))))
        (some (.inl (w64 (p1 + 1)))))
       (some (.inl (w64 (p1 + 1))))))
     (bnd (i_isPair N x2.mKind) fun x12 =>
     sel (!x12)
      (sel (x2.mB != 0)
       (some (.inr (.rt (false))))
       (some (.inl (w64 (p1 + 1)))))
      (some (.inl (w64 (p1 + 1))))))))
  (some (.inr (.nx ())))
def i_IsPlay (N : Nat) (v0 : List (Gx.Step)) : Option (Bool) :=
 bnd (i_InRange N (v0.length : Int) 1 9) fun x1 =>
 sel (!x1)
  (some false)
  (cutb (α := Unit) (
   loopN (i_IsPlay_L1 N v0) N 0) fun t13 =>
  some true)
def i_IsClue (N : Nat) (v0 : Gx.Clue) : Option (Bool) :=
 bnd (i_InRange N v0.mSense 1 99) fun x1 =>
 sel (x1)
  (bnd (i_IsPlay N v0.mPlay) fun x2 =>
  some x2)
  (some false)
def i_IsPuzzle_1 (N : Nat) (v0 : Gx.Clue) : Option (Bool) :=
 bnd (i_IsClue N v0) fun x1 =>
 some !x1
def g_slices_IndexFunc_Simpl_Clue_impl_Clue_L1 (N : Nat) (v0 : List (Gx.Clue)) (v1 : (Gx.Clue) → Option Bool) (p1 : Int) : Option (Sum (Int) (Cut (Unit) (Int))) :=
 sel (decide (p1 < (v0.length : Int)))
  (bnd (getI v0 p1) fun x1 =>
  bnd (v1 x1) fun x2 =>
  sel (x2)
   (some (.inr (.rt (p1))))
   (some (.inl (w64 (p1 + 1)))))
  (some (.inr (.nx ())))
def g_slices_IndexFunc_Simpl_Clue_impl_Clue (N : Nat) (v0 : List (Gx.Clue)) (v1 : (Gx.Clue) → Option Bool) : Option (Int) :=
 cutb (α := Unit) (
  loopN (g_slices_IndexFunc_Simpl_Clue_impl_Clue_L1 N v0 v1) N 0) fun t3 =>
 some (-1)
def g_slices_ContainsFunc_Simpl_Clue_impl_Clue (N : Nat) (v0 : List (Gx.Clue)) (v1 : (Gx.Clue) → Option Bool) : Option (Bool) :=
 bnd (g_slices_IndexFunc_Simpl_Clue_impl_Clue N v0 v1) fun x1 =>
 some (decide (x1 ≥ 0))
def i_IsPuzzle (N : Nat) (v0 : Gx.Puzzle) : Option (Bool) :=
 bnd (i_FormOf N v0.mGrid) fun x1 =>
 sel (x1 != 0)
  (some false)
  (bnd (i_SlotsOf N v0.mGrid) fun x2 =>
  sel ((v0.mClues.length : Int) == (x2.length : Int))
   (sel ((v0.mSeals.length : Int) == (x2.length : Int))
    (bnd (i_InRange N v0.mSalt 1 9999) fun x3 =>
    sel (x3)
     (bnd (g_slices_ContainsFunc_Simpl_Clue_impl_Clue N v0.mClues (fun a0 => i_IsPuzzle_1 N a0)) fun x4 =>
     some !x4)
     (some false))
    (some false))
   (some false))
def i_IsFill_L1 (N : Nat) (v1 : List UInt8) (v0 : Gx.Grid) (p1 : Int) : Option (Sum (Int) (Cut (Unit) (Bool))) :=
 sel (decide (p1 < (v1.length : Int)))
  (chk (0 ≤ p1 ∧ p1 < (v0.mCells.length : Int)) <|
  chk (0 ≤ p1 ∧ p1 < (v1.length : Int)) <|
  sel (((byteI v0.mCells p1) == 35) != ((byteI v1 p1) == 35))
   (some (.inr (.rt (false))))
   (chk (0 ≤ p1 ∧ p1 < (v1.length : Int)) <|
   sel ((byteI v1 p1) != 35)
    (chk (0 ≤ p1 ∧ p1 < (v1.length : Int)) <|
    sel ((byteI v1 p1) != 63)
     (chk (0 ≤ p1 ∧ p1 < (v1.length : Int)) <|
     bnd (i_isLetter N (byteI v1 p1)) fun x2 =>
     sel (!x2)
      (some (.inr (.rt (false))))
      (some (.inl (w64 (p1 + 1)))))
     (some (.inl (w64 (p1 + 1)))))
    (some (.inl (w64 (p1 + 1))))))
  (some (.inr (.nx ())))
def i_IsFill (N : Nat) (v0 : Gx.Grid) (v1 : List UInt8) : Option (Bool) :=
 bnd (i_IsGrid N v0) fun x1 =>
 sel (!x1)
  (some false)
  (sel ((v1.length : Int) != (v0.mCells.length : Int))
   (some false)
   (cutb (α := Unit) (
    loopN (i_IsFill_L1 N v1 v0) N 0) fun t3 =>
   some true))
def i_openIn_L1 (N : Nat) (v0 : List UInt8) (p1 : Int × Int) : Option (Sum (Int × Int) (Int)) :=
 sel (decide (p1.2 < (v0.length : Int)))
  (chk (0 ≤ p1.2 ∧ p1.2 < (v0.length : Int)) <|
  sel ((byteI v0 p1.2) == 63)
   (some (.inl (w64 (p1.1 + 1), w64 (p1.2 + 1))))
   (some (.inl (p1.1, w64 (p1.2 + 1)))))
  (some (.inr (p1.1)))
def i_openIn (N : Nat) (v0 : List UInt8) : Option (Int) :=
 bnd (α := Int) (
  loopN (i_openIn_L1 N v0) N (0, 0)) fun t1 =>
 some t1
def i_IsFull (N : Nat) (v0 : Gx.Grid) (v1 : List UInt8) : Option (Bool) :=
 bnd (i_IsFill N v0 v1) fun x1 =>
 sel (x1)
  (bnd (i_openIn N v1) fun x2 =>
  some (x2 == 0))
  (some false)
def i_readCells_L1 (N : Nat) (v1 : List (Int)) (v0 : List UInt8) (p1 : (List (UInt8)) × Int) : Option (Sum ((List (UInt8)) × Int) ((List (UInt8)))) :=
 sel (decide (p1.2 < (v1.length : Int)))
  (bnd (getI v1 p1.2) fun x1 =>
  chk (0 ≤ x1 ∧ x1 < (v0.length : Int)) <|
  chk (p1.1.length + ([List.getD v0 (Int.toNat x1) 0]).length ≤ 274877906944) <|
  some (.inl (p1.1 ++ ([List.getD v0 (Int.toNat x1) 0]), w64 (p1.2 + 1))))
  (some (.inr (p1.1)))
def i_readCells (N : Nat) (v0 : List UInt8) (v1 : List (Int)) : Option ((List UInt8)) :=
 bnd (α := (List (UInt8))) (
  loopN (i_readCells_L1 N v1 v0) N ([], 0)) fun t2 =>
 some t2
def i_patterns_L1 (N : Nat) (x2 : (List (List (Int)))) (v1 : List UInt8) (p1 : (List (List UInt8)) × Int) : Option (Sum ((List (List UInt8)) × Int) ((List (List UInt8)))) :=
 sel (decide (p1.2 < (x2.length : Int)))
  (bnd (getI x2 p1.2) fun x3 =>
  bnd (i_readCells N v1 x3) fun x4 =>
  chk (p1.1.length + ([x4]).length ≤ 274877906944) <|
  some (.inl (p1.1 ++ ([x4]), w64 (p1.2 + 1))))
  (some (.inr (p1.1)))
def i_patterns (N : Nat) (v0 : Gx.Grid) (v1 : List UInt8) : Option ((List (List UInt8))) :=
 bnd (i_IsFill N v0 v1) fun x1 =>
 sel (!x1)
  (some ([]))
  (bnd (α := (List (List UInt8))) (
   bnd (i_layout N v0) fun x2 =>
   loopN (i_patterns_L1 N x2 v1) N ([], 0)) fun t5 =>
  some t5)
def i_LettersOf_L1 (N : Nat) (v0 : List UInt8) (p1 : (List (Int)) × Int) : Option (Sum ((List (Int)) × Int) ((List (Int)))) :=
 sel (decide (p1.2 < (v0.length : Int)))
  (chk (0 ≤ p1.2 ∧ p1.2 < (v0.length : Int)) <|
  chk (p1.1.length + ([w64 (byteI v0 p1.2)]).length ≤ 274877906944) <|
  some (.inl (p1.1 ++ ([w64 (byteI v0 p1.2)]), w64 (p1.2 + 1))))
  (some (.inr (p1.1)))
def i_LettersOf (N : Nat) (v0 : List UInt8) : Option ((List (Int))) :=
 bnd (α := (List (Int))) (
  loopN (i_LettersOf_L1 N v0) N ([], 0)) fun t1 =>
 some t1
def i_Mod (N : Nat) (v0 : Int) (v1 : Int) : Option (Int) :=
 bnd (i_InRange N v1 1 1000000000000) fun x1 =>
 sel (!x1)
  (some 0)
  (chk ((v1 : Int) ≠ 0) <|
  chk ((v1 : Int) ≠ 0) <|
  some (Int.tmod (w64 ((Int.tmod v0 v1) + v1)) v1))
def i_Hash_L1 (N : Nat) (v0 : List (Int)) (p1 : Int × Int) : Option (Sum (Int × Int) (Int)) :=
 sel (decide (p1.2 < (v0.length : Int)))
  (bnd (getI v0 p1.2) fun x1 =>
  bnd (i_Mod N x1 2147483647) fun x2 =>
  chk ((2147483647 : Int) ≠ 0) <|
  some (.inl (Int.tmod (w64 ((w64 ((w64 (p1.1 * 1000003)) + x2)) + 13)) 2147483647, w64 (p1.2 + 1))))
  (some (.inr (p1.1)))
def i_Hash (N : Nat) (v0 : List (Int)) : Option (Int) :=
 bnd (α := Int) (
  loopN (i_Hash_L1 N v0) N (11, 0)) fun t3 =>
 some t3
def i_SealAnswer (N : Nat) (v0 : Int) (v1 : Int) (v2 : List UInt8) : Option (Int) :=
 bnd (i_IsWord N v2) fun x1 =>
 sel (!x1)
  (some 0)
  (bnd (i_LettersOf N v2) fun x2 =>
  chk (([v0, v1, (v2.length : Int)]).length + x2.length ≤ 274877906944) <|
  bnd (i_Hash N (([v0, v1, (v2.length : Int)]) ++ x2)) fun x3 =>
  some x3)
def i_ChecksAnswer (N : Nat) (v0 : List (Int)) (v1 : Int) (v2 : Int) (v3 : List UInt8) : Option (Bool) :=
 bnd (i_at N v2 (v0.length : Int)) fun x1 =>
 sel (x1)
  (bnd (i_IsWord N v3) fun x2 =>
  sel (x2)
   (bnd (i_SealAnswer N v1 v2 v3) fun x3 =>
   bnd (getI v0 v2) fun x4 =>
   some (x3 == x4))
   (some false))
  (some false)
def i_RightSlots_L1 (N : Nat) (x1 : (List (List UInt8))) (v2 : List (Int)) (v3 : Int) (p1 : (List (Int)) × Int) : Option (Sum ((List (Int)) × Int) ((List (Int)))) :=
 sel (decide (p1.2 < (x1.length : Int)))
  (bnd (getI x1 p1.2) fun x2 =>
  bnd (i_ChecksAnswer N v2 v3 p1.2 x2) fun x3 =>
  sel (x3)
   (chk (p1.1.length + ([p1.2]).length ≤ 274877906944) <|
   some (.inl (p1.1 ++ ([p1.2]), w64 (p1.2 + 1))))
   (some (.inl (p1.1, w64 (p1.2 + 1)))))
  (some (.inr (p1.1)))
def i_RightSlots (N : Nat) (v0 : Gx.Grid) (v1 : List UInt8) (v2 : List (Int)) (v3 : Int) : Option ((List (Int))) :=
 bnd (α := (List (Int))) (
  bnd (i_patterns N v0 v1) fun x1 =>
  loopN (i_RightSlots_L1 N x1 v2 v3) N ([], 0)) fun t4 =>
 some t4
def i_IsSolved (N : Nat) (v0 : Gx.Puzzle) (v1 : List UInt8) : Option (Bool) :=
 bnd (i_IsPuzzle N v0) fun x1 =>
 sel (x1)
  (bnd (i_IsFull N v0.mGrid v1) fun x2 =>
  sel (x2)
   (bnd (i_RightSlots N v0.mGrid v1 v0.mSeals v0.mSalt) fun x3 =>
   some ((x3.length : Int) == (v0.mSeals.length : Int)))
   (some false))
  (some false)
def i_IsIssue (N : Nat) (v0 : Gx.Issue) : Option (Bool) :=
 bnd (i_InRange N v0.mNumber 1 999) fun x1 =>
 sel (x1)
  (bnd (i_IsSolved N v0.mPuzzle v0.mFill) fun x2 =>
  sel (x2)
   (sel (decide (v0.mOpen ≥ 0))
    (sel (decide (v0.mOpen < v0.mClose))
     (some (decide (v0.mClose ≤ 1000)))
     (some false))
    (some false))
   (some false))
  (some false)
def i_EmptyFill (N : Nat) (v0 : Gx.Grid) : Option ((List UInt8)) :=
 bnd (i_IsGrid N v0) fun x1 =>
 sel (!x1)
  (some ([] : List UInt8))
  (bnd (g_strings_ReplaceAll N v0.mCells ([46] : List UInt8) ([63] : List UInt8)) fun x2 =>
  some x2)
def i_SolutionAt (N : Nat) (v0 : Gx.Issue) (v1 : Int) : Option ((List UInt8)) :=
 bnd (i_IsIssue N v0) fun x1 =>
 sel (!x1)
  (some ([] : List UInt8))
  (sel (decide (v1 ≥ v0.mClose))
   (some v0.mFill)
   (bnd (i_EmptyFill N v0.mPuzzle.mGrid) fun x2 =>
   some x2))
def i_ShownAt_L1 (N : Nat) (v0 : Gx.Issue) (p1 : Unit) : Option (Sum (Unit) (Unit)) :=
 sel (decide (0 < (v0.mPuzzle.mClues.length : Int)))
  (bnd (getI v0.mPuzzle.mClues 0) fun x2 =>
  none)
  (some (.inr (())))
def i_ShownAt (N : Nat) (v0 : Gx.Issue) (v1 : Int) : Option ((List (List UInt8))) :=
 bnd (i_IsIssue N v0) fun x1 =>
 sel (!x1)
  (some ([]))
  (sel (decide (v1 < v0.mOpen))
   (some ([]))
   (bnd (α := Unit) (
    loopN (i_ShownAt_L1 N v0) N ()) fun t4 =>
   some ([])))
def i_IsQuiet_L1 (N : Nat) (v0 : Gx.House) (p1 : Int) : Option (Sum (Int) (Cut (Unit) (Bool))) :=
 sel (decide (p1 < (v0.mIssues.length : Int)))
  (bnd (getI v0.mIssues p1) fun x1 =>
  sel (decide (v0.mNow < x1.mClose))
   (bnd (i_SolutionAt N x1 v0.mNow) fun x2 =>
   bnd (i_EmptyFill N x1.mPuzzle.mGrid) fun x3 =>
   sel (x2 != x3)
    (some (.inr (.rt (false))))
    (sel (decide (v0.mNow < x1.mOpen))
     (bnd (i_ShownAt N x1 v0.mNow) fun x4 =>
     sel (decide ((x4.length : Int) > 0))
      (some (.inr (.rt (false))))
      (some (.inl (w64 (p1 + 1)))))
     (some (.inl (w64 (p1 + 1))))))
   (sel (decide (v0.mNow < x1.mOpen))
    (bnd (i_ShownAt N x1 v0.mNow) fun x5 =>
    sel (decide ((x5.length : Int) > 0))
     (some (.inr (.rt (false))))
     (some (.inl (w64 (p1 + 1)))))
    (some (.inl (w64 (p1 + 1))))))
  (some (.inr (.nx ())))
def i_IsQuiet (N : Nat) (v0 : Gx.House) : Option (Bool) :=
 cutb (α := Unit) (
  loopN (i_IsQuiet_L1 N v0) N 0) fun t6 =>
 some true
def l_eqListed (N : Nat) (v0 : Gx.Listed) (v1 : Gx.Listed) : Option (Bool) :=
 sel (v0.mWord != v1.mWord)
  (some false)
  (sel (v0.mFrom != v1.mFrom)
   (some false)
   (sel (v0.mUntil != v1.mUntil)
    (some false)
    (sel (v0.mScore != v1.mScore)
     (some false)
     (some true))))
def l_eqListedS_L1 (N : Nat) (v0 : List (Gx.Listed)) (v1 : List (Gx.Listed)) (p1 : Int) : Option (Sum (Int) (Cut (Unit) (Bool))) :=
 sel (decide (p1 < (v0.length : Int)))
  (bnd (getI v0 p1) fun x1 =>
  bnd (getI v1 p1) fun x2 =>
  bnd (l_eqListed N x1 x2) fun x3 =>
  sel (!x3)
   (some (.inr (.rt (false))))
   (some (.inl (w64 (p1 + 1)))))
  (some (.inr (.nx ())))
def l_eqListedS (N : Nat) (v0 : List (Gx.Listed)) (v1 : List (Gx.Listed)) : Option (Bool) :=
 sel ((v0.length : Int) != (v1.length : Int))
  (some false)
  (cutb (α := Unit) (
   loopN (l_eqListedS_L1 N v0 v1) N 0) fun t4 =>
  some true)
def l_eqMeaning (N : Nat) (v0 : Gx.Meaning) (v1 : Gx.Meaning) : Option (Bool) :=
 sel (v0.mWord != v1.mWord)
  (some false)
  (sel (v0.mSense != v1.mSense)
   (some false)
   (some true))
def l_eqMeaningS_L1 (N : Nat) (v0 : List (Gx.Meaning)) (v1 : List (Gx.Meaning)) (p1 : Int) : Option (Sum (Int) (Cut (Unit) (Bool))) :=
 sel (decide (p1 < (v0.length : Int)))
  (bnd (getI v0 p1) fun x1 =>
  bnd (getI v1 p1) fun x2 =>
  bnd (l_eqMeaning N x1 x2) fun x3 =>
  sel (!x3)
   (some (.inr (.rt (false))))
   (some (.inl (w64 (p1 + 1)))))
  (some (.inr (.nx ())))
def l_eqMeaningS (N : Nat) (v0 : List (Gx.Meaning)) (v1 : List (Gx.Meaning)) : Option (Bool) :=
 sel ((v0.length : Int) != (v1.length : Int))
  (some false)
  (cutb (α := Unit) (
   loopN (l_eqMeaningS_L1 N v0 v1) N 0) fun t4 =>
  some true)
def l_eqGrid (N : Nat) (v0 : Gx.Grid) (v1 : Gx.Grid) : Option (Bool) :=
 sel (v0.mRows != v1.mRows)
  (some false)
  (sel (v0.mCols != v1.mCols)
   (some false)
   (sel (v0.mCells != v1.mCells)
    (some false)
    (some true)))
def l_eqStep (N : Nat) (v0 : Gx.Step) (v1 : Gx.Step) : Option (Bool) :=
 sel (v0.mKind != v1.mKind)
  (some false)
  (sel (v0.mWord != v1.mWord)
   (some false)
   (sel (v0.mA != v1.mA)
    (some false)
    (sel (v0.mB != v1.mB)
     (some false)
     (some true))))
def l_eqStepS_L1 (N : Nat) (v0 : List (Gx.Step)) (v1 : List (Gx.Step)) (p1 : Int) : Option (Sum (Int) (Cut (Unit) (Bool))) :=
 sel (decide (p1 < (v0.length : Int)))
  (bnd (getI v0 p1) fun x1 =>
  bnd (getI v1 p1) fun x2 =>
  bnd (l_eqStep N x1 x2) fun x3 =>
  sel (!x3)
   (some (.inr (.rt (false))))
   (some (.inl (w64 (p1 + 1)))))
  (some (.inr (.nx ())))
def l_eqStepS (N : Nat) (v0 : List (Gx.Step)) (v1 : List (Gx.Step)) : Option (Bool) :=
 sel ((v0.length : Int) != (v1.length : Int))
  (some false)
  (cutb (α := Unit) (
   loopN (l_eqStepS_L1 N v0 v1) N 0) fun t4 =>
  some true)
def l_eqClue (N : Nat) (v0 : Gx.Clue) (v1 : Gx.Clue) : Option (Bool) :=
 sel (v0.mSense != v1.mSense)
  (some false)
  (bnd (l_eqStepS N v0.mPlay v1.mPlay) fun x1 =>
  sel (!x1)
   (some false)
   (some true))
def l_eqClueS_L1 (N : Nat) (v0 : List (Gx.Clue)) (v1 : List (Gx.Clue)) (p1 : Int) : Option (Sum (Int) (Cut (Unit) (Bool))) :=
 sel (decide (p1 < (v0.length : Int)))
  (bnd (getI v0 p1) fun x1 =>
  bnd (getI v1 p1) fun x2 =>
  bnd (l_eqClue N x1 x2) fun x3 =>
  sel (!x3)
   (some (.inr (.rt (false))))
   (some (.inl (w64 (p1 + 1)))))
  (some (.inr (.nx ())))
def l_eqClueS (N : Nat) (v0 : List (Gx.Clue)) (v1 : List (Gx.Clue)) : Option (Bool) :=
 sel ((v0.length : Int) != (v1.length : Int))
  (some false)
  (cutb (α := Unit) (
   loopN (l_eqClueS_L1 N v0 v1) N 0) fun t4 =>
  some true)
def l_eqDraft (N : Nat) (v0 : Gx.Draft) (v1 : Gx.Draft) : Option (Bool) :=
 bnd (l_eqGrid N v0.mGrid v1.mGrid) fun x1 =>
 sel (!x1)
  (some false)
  (sel (v0.mFill != v1.mFill)
   (some false)
   (bnd (l_eqClueS N v0.mClues v1.mClues) fun x2 =>
   sel (!x2)
    (some false)
    (sel (v0.mVersion != v1.mVersion)
     (some false)
     (some true))))
def l_eqIntS_L1 (N : Nat) (v0 : List (Int)) (v1 : List (Int)) (p1 : Int) : Option (Sum (Int) (Cut (Unit) (Bool))) :=
 sel (decide (p1 < (v0.length : Int)))
  (bnd (getI v0 p1) fun x1 =>
  bnd (getI v1 p1) fun x2 =>
  sel (x1 != x2)
   (some (.inr (.rt (false))))
   (some (.inl (w64 (p1 + 1)))))
  (some (.inr (.nx ())))
def l_eqIntS (N : Nat) (v0 : List (Int)) (v1 : List (Int)) : Option (Bool) :=
 sel ((v0.length : Int) != (v1.length : Int))
  (some false)
  (cutb (α := Unit) (
   loopN (l_eqIntS_L1 N v0 v1) N 0) fun t3 =>
  some true)
def l_eqPuzzle (N : Nat) (v0 : Gx.Puzzle) (v1 : Gx.Puzzle) : Option (Bool) :=
 bnd (l_eqGrid N v0.mGrid v1.mGrid) fun x1 =>
 sel (!x1)
  (some false)
  (bnd (l_eqClueS N v0.mClues v1.mClues) fun x2 =>
  sel (!x2)
   (some false)
   (bnd (l_eqIntS N v0.mSeals v1.mSeals) fun x3 =>
   sel (!x3)
    (some false)
    (sel (v0.mSalt != v1.mSalt)
     (some false)
     (some true))))
def l_eqIssue (N : Nat) (v0 : Gx.Issue) (v1 : Gx.Issue) : Option (Bool) :=
 sel (v0.mNumber != v1.mNumber)
  (some false)
  (bnd (l_eqPuzzle N v0.mPuzzle v1.mPuzzle) fun x1 =>
  sel (!x1)
   (some false)
   (sel (v0.mFill != v1.mFill)
    (some false)
    (sel (v0.mOpen != v1.mOpen)
     (some false)
     (sel (v0.mClose != v1.mClose)
      (some false)
      (some true)))))
def l_eqIssueS_L1 (N : Nat) (v0 : List (Gx.Issue)) (v1 : List (Gx.Issue)) (p1 : Int) : Option (Sum (Int) (Cut (Unit) (Bool))) :=
 sel (decide (p1 < (v0.length : Int)))
  (bnd (getI v0 p1) fun x1 =>
  bnd (getI v1 p1) fun x2 =>
  bnd (l_eqIssue N x1 x2) fun x3 =>
  sel (!x3)
   (some (.inr (.rt (false))))
   (some (.inl (w64 (p1 + 1)))))
  (some (.inr (.nx ())))
def l_eqIssueS (N : Nat) (v0 : List (Gx.Issue)) (v1 : List (Gx.Issue)) : Option (Bool) :=
 sel ((v0.length : Int) != (v1.length : Int))
  (some false)
  (cutb (α := Unit) (
   loopN (l_eqIssueS_L1 N v0 v1) N 0) fun t4 =>
  some true)
def l_eqUsed (N : Nat) (v0 : Gx.Used) (v1 : Gx.Used) : Option (Bool) :=
 sel (v0.mWord != v1.mWord)
  (some false)
  (sel (v0.mIssue != v1.mIssue)
   (some false)
   (some true))
def l_eqUsedS_L1 (N : Nat) (v0 : List (Gx.Used)) (v1 : List (Gx.Used)) (p1 : Int) : Option (Sum (Int) (Cut (Unit) (Bool))) :=
 sel (decide (p1 < (v0.length : Int)))
  (bnd (getI v0 p1) fun x1 =>
  bnd (getI v1 p1) fun x2 =>
  bnd (l_eqUsed N x1 x2) fun x3 =>
  sel (!x3)
   (some (.inr (.rt (false))))
   (some (.inl (w64 (p1 + 1)))))
  (some (.inr (.nx ())))
def l_eqUsedS (N : Nat) (v0 : List (Gx.Used)) (v1 : List (Gx.Used)) : Option (Bool) :=
 sel ((v0.length : Int) != (v1.length : Int))
  (some false)
  (cutb (α := Unit) (
   loopN (l_eqUsedS_L1 N v0 v1) N 0) fun t4 =>
  some true)
def l_eqCorrection (N : Nat) (v0 : Gx.Correction) (v1 : Gx.Correction) : Option (Bool) :=
 sel (v0.mIssue != v1.mIssue)
  (some false)
  (sel (v0.mSlot != v1.mSlot)
   (some false)
   (bnd (l_eqClue N v0.mClue v1.mClue) fun x1 =>
   sel (!x1)
    (some false)
    (sel (v0.mTick != v1.mTick)
     (some false)
     (some true))))
def l_eqCorrectionS_L1 (N : Nat) (v0 : List (Gx.Correction)) (v1 : List (Gx.Correction)) (p1 : Int) : Option (Sum (Int) (Cut (Unit) (Bool))) :=
 sel (decide (p1 < (v0.length : Int)))
  (bnd (getI v0 p1) fun x1 =>
  bnd (getI v1 p1) fun x2 =>
  bnd (l_eqCorrection N x1 x2) fun x3 =>
  sel (!x3)
   (some (.inr (.rt (false))))
   (some (.inl (w64 (p1 + 1)))))
  (some (.inr (.nx ())))
def l_eqCorrectionS (N : Nat) (v0 : List (Gx.Correction)) (v1 : List (Gx.Correction)) : Option (Bool) :=
 sel ((v0.length : Int) != (v1.length : Int))
  (some false)
  (cutb (α := Unit) (
   loopN (l_eqCorrectionS_L1 N v0 v1) N 0) fun t4 =>
  some true)
def l_eqEntry (N : Nat) (v0 : Gx.Entry) (v1 : Gx.Entry) : Option (Bool) :=
 sel (v0.mPlayer != v1.mPlayer)
  (some false)
  (sel (v0.mIssue != v1.mIssue)
   (some false)
   (sel (v0.mTick != v1.mTick)
    (some false)
    (sel (v0.mFill != v1.mFill)
     (some false)
     (some true))))
def l_eqEntryS_L1 (N : Nat) (v0 : List (Gx.Entry)) (v1 : List (Gx.Entry)) (p1 : Int) : Option (Sum (Int) (Cut (Unit) (Bool))) :=
 sel (decide (p1 < (v0.length : Int)))
  (bnd (getI v0 p1) fun x1 =>
  bnd (getI v1 p1) fun x2 =>
  bnd (l_eqEntry N x1 x2) fun x3 =>
  sel (!x3)
   (some (.inr (.rt (false))))
   (some (.inl (w64 (p1 + 1)))))
  (some (.inr (.nx ())))
def l_eqEntryS (N : Nat) (v0 : List (Gx.Entry)) (v1 : List (Gx.Entry)) : Option (Bool) :=
 sel ((v0.length : Int) != (v1.length : Int))
  (some false)
  (cutb (α := Unit) (
   loopN (l_eqEntryS_L1 N v0 v1) N 0) fun t4 =>
  some true)
def l_eqHouse (N : Nat) (v0 : Gx.House) (v1 : Gx.House) : Option (Bool) :=
 bnd (l_eqListedS N v0.mList v1.mList) fun x1 =>
 sel (!x1)
  (some false)
  (bnd (l_eqMeaningS N v0.mDict v1.mDict) fun x2 =>
  sel (!x2)
   (some false)
   (bnd (l_eqDraft N v0.mDesk v1.mDesk) fun x3 =>
   sel (!x3)
    (some false)
    (bnd (l_eqIssueS N v0.mIssues v1.mIssues) fun x4 =>
    sel (!x4)
     (some false)
     (bnd (l_eqUsedS N v0.mUses v1.mUses) fun x5 =>
     sel (!x5)
      (some false)
      (bnd (l_eqCorrectionS N v0.mCorrections v1.mCorrections) fun x6 =>
      sel (!x6)
       (some false)
       (bnd (l_eqEntryS N v0.mEntries v1.mEntries) fun x7 =>
       sel (!x7)
        (some false)
        (sel (v0.mNow != v1.mNow)
         (some false)
         (some true))))))))
def l_FnExactIsQuiet (N : Nat) (v0 : Gx.House) : Option (Bool) :=
 bnd (l_szHouse N v0 1048576) fun x1 =>
 sel (decide (x1 < 0))
  (some true)
  (bnd (l_toHouse N v0) fun x2 =>
  bnd (s_IsQuiet N x2) fun x3 =>
  bnd (l_toHouse N v0) fun x4 =>
  bnd (i_IsQuiet N x4) fun x5 =>
  sel (x5 != x3)
   (some false)
   (bnd (l_toHouse N v0) fun x6 =>
   bnd (l_eqHouse N x4 x6) fun x7 =>
   sel (!x7)
    (some false)
    (some true)))
end Lw
end Go.Proofs
