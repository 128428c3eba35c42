/- PRINTED BY gen.py (mine): the functions that the law reaches, as plain functions. -/
import Derived.Test.YtniibgdokfnomaaGreatDoorAvLp
import Derived.Test.YtniibgdokfnomaaGreatDoorAvRa
namespace Go.Proofs
open Go Go.Av
set_option maxRecDepth 100000
set_option maxHeartbeats 40000000
set_option linter.unusedVariables false
set_option linter.unusedSimpArgs false
namespace Lw
def g_slices_Clone_Simpl_Listed_impl_Listed (N : Nat) (l : List (Gx.Listed)) : Option (List (Gx.Listed)) := chk (l.length ≤ 274877906944) (some l)
def g_slices_Clone_Simpl_Meaning_impl_Meaning (N : Nat) (l : List (Gx.Meaning)) : Option (List (Gx.Meaning)) := chk (l.length ≤ 274877906944) (some l)
def g_slices_Clone_Simpl_Used_impl_Used (N : Nat) (l : List (Gx.Used)) : Option (List (Gx.Used)) := chk (l.length ≤ 274877906944) (some l)
def g_slices_Clone_Simpl_Entry_impl_Entry (N : Nat) (l : List (Gx.Entry)) : Option (List (Gx.Entry)) := chk (l.length ≤ 274877906944) (some l)
def g_strings_ReplaceAll (N : Nat) (s old new : List UInt8) : Option (List UInt8) := chk (s.length ≤ 1048576 ∧ old.length = 1 ∧ new.length = 1) (some (Lib.replaceAll s old new))
def g_slices_Clone_Sint_int (N : Nat) (l : List (Int)) : Option (List (Int)) := chk (l.length ≤ 274877906944) (some l)
def g_slices_Clone_Simpl_Step_impl_Step (N : Nat) (l : List (Gx.Step)) : Option (List (Gx.Step)) := chk (l.length ≤ 274877906944) (some l)
def l_szListed (N : Nat) (v0 : Gx.Listed) (v1 : Int) : Option (Int) :=
 sel (decide ((w64 (v1 - (v0.mWord.length : Int))) < 0))
  (some (-1))
  (some (w64 (v1 - (v0.mWord.length : Int))))
def l_szListedS_L1 (N : Nat) (v0 : List (Gx.Listed)) (p1 : Int × Int) : Option (Sum (Int × Int) (Cut (Int) (Int))) :=
 sel (decide (p1.2 < (v0.length : Int)))
  (bnd (getI v0 p1.2) fun x1 =>
  bnd (l_szListed N x1 p1.1) fun x2 =>
  sel (decide (x2 < 0))
   (some (.inr (.rt ((-1)))))
   (some (.inl (x2, w64 (p1.2 + 1)))))
  (some (.inr (.nx p1.1)))
def l_szListedS (N : Nat) (v0 : List (Gx.Listed)) (v1 : Int) : Option (Int) :=
 sel (decide ((w64 (v1 - (v0.length : Int))) < 0))
  (some (-1))
  (cutb (α := Int) (
   loopN (l_szListedS_L1 N v0) N (w64 (v1 - (v0.length : Int)), 0)) fun t3 =>
  some t3)
def l_szMeaning (N : Nat) (v0 : Gx.Meaning) (v1 : Int) : Option (Int) :=
 sel (decide ((w64 (v1 - (v0.mWord.length : Int))) < 0))
  (some (-1))
  (some (w64 (v1 - (v0.mWord.length : Int))))
def l_szMeaningS_L1 (N : Nat) (v0 : List (Gx.Meaning)) (p1 : Int × Int) : Option (Sum (Int × Int) (Cut (Int) (Int))) :=
 sel (decide (p1.2 < (v0.length : Int)))
  (bnd (getI v0 p1.2) fun x1 =>
  bnd (l_szMeaning N x1 p1.1) fun x2 =>
  sel (decide (x2 < 0))
   (some (.inr (.rt ((-1)))))
   (some (.inl (x2, w64 (p1.2 + 1)))))
  (some (.inr (.nx p1.1)))
def l_szMeaningS (N : Nat) (v0 : List (Gx.Meaning)) (v1 : Int) : Option (Int) :=
 sel (decide ((w64 (v1 - (v0.length : Int))) < 0))
  (some (-1))
  (cutb (α := Int) (
   loopN (l_szMeaningS_L1 N v0) N (w64 (v1 - (v0.length : Int)), 0)) fun t3 =>
  some t3)
def l_szGrid (N : Nat) (v0 : Gx.Grid) (v1 : Int) : Option (Int) :=
 sel (decide ((w64 (v1 - (v0.mCells.length : Int))) < 0))
  (some (-1))
  (some (w64 (v1 - (v0.mCells.length : Int))))
def l_szStep (N : Nat) (v0 : Gx.Step) (v1 : Int) : Option (Int) :=
 sel (decide ((w64 (v1 - (v0.mWord.length : Int))) < 0))
  (some (-1))
  (some (w64 (v1 - (v0.mWord.length : Int))))
def l_szStepS_L1 (N : Nat) (v0 : List (Gx.Step)) (p1 : Int × Int) : Option (Sum (Int × Int) (Cut (Int) (Int))) :=
 sel (decide (p1.2 < (v0.length : Int)))
  (bnd (getI v0 p1.2) fun x1 =>
  bnd (l_szStep N x1 p1.1) fun x2 =>
  sel (decide (x2 < 0))
   (some (.inr (.rt ((-1)))))
   (some (.inl (x2, w64 (p1.2 + 1)))))
  (some (.inr (.nx p1.1)))
def l_szStepS (N : Nat) (v0 : List (Gx.Step)) (v1 : Int) : Option (Int) :=
 sel (decide ((w64 (v1 - (v0.length : Int))) < 0))
  (some (-1))
  (cutb (α := Int) (
   loopN (l_szStepS_L1 N v0) N (w64 (v1 - (v0.length : Int)), 0)) fun t3 =>
  some t3)
def l_szClue (N : Nat) (v0 : Gx.Clue) (v1 : Int) : Option (Int) :=
 bnd (l_szStepS N v0.mPlay v1) fun x1 =>
 sel (decide (x1 < 0))
  (some (-1))
  (some x1)
def l_szClueS_L1 (N : Nat) (v0 : List (Gx.Clue)) (p1 : Int × Int) : Option (Sum (Int × Int) (Cut (Int) (Int))) :=
 sel (decide (p1.2 < (v0.length : Int)))
  (bnd (getI v0 p1.2) fun x1 =>
  bnd (l_szClue N x1 p1.1) fun x2 =>
  sel (decide (x2 < 0))
   (some (.inr (.rt ((-1)))))
   (some (.inl (x2, w64 (p1.2 + 1)))))
  (some (.inr (.nx p1.1)))
def l_szClueS (N : Nat) (v0 : List (Gx.Clue)) (v1 : Int) : Option (Int) :=
 sel (decide ((w64 (v1 - (v0.length : Int))) < 0))
  (some (-1))
  (cutb (α := Int) (
   loopN (l_szClueS_L1 N v0) N (w64 (v1 - (v0.length : Int)), 0)) fun t3 =>
  some t3)
def l_szDraft (N : Nat) (v0 : Gx.Draft) (v1 : Int) : Option (Int) :=
 bnd (l_szGrid N v0.mGrid v1) fun x1 =>
 sel (decide (x1 < 0))
  (some (-1))
  (sel (decide ((w64 (x1 - (v0.mFill.length : Int))) < 0))
   (some (-1))
   (bnd (l_szClueS N v0.mClues (w64 (x1 - (v0.mFill.length : Int)))) fun x2 =>
   sel (decide (x2 < 0))
    (some (-1))
    (some x2)))
def l_szIntS (N : Nat) (v0 : List (Int)) (v1 : Int) : Option (Int) :=
 sel (decide ((w64 (v1 - (v0.length : Int))) < 0))
  (some (-1))
  (some (w64 (v1 - (v0.length : Int))))
def l_szPuzzle (N : Nat) (v0 : Gx.Puzzle) (v1 : Int) : Option (Int) :=
 bnd (l_szGrid N v0.mGrid v1) fun x1 =>
 sel (decide (x1 < 0))
  (some (-1))
  (bnd (l_szClueS N v0.mClues x1) fun x2 =>
  sel (decide (x2 < 0))
   (some (-1))
   (bnd (l_szIntS N v0.mSeals x2) fun x3 =>
   sel (decide (x3 < 0))
    (some (-1))
    (some x3)))
def l_szIssue (N : Nat) (v0 : Gx.Issue) (v1 : Int) : Option (Int) :=
 bnd (l_szPuzzle N v0.mPuzzle v1) fun x1 =>
 sel (decide (x1 < 0))
  (some (-1))
  (sel (decide ((w64 (x1 - (v0.mFill.length : Int))) < 0))
   (some (-1))
   (some (w64 (x1 - (v0.mFill.length : Int)))))
def l_szIssueS_L1 (N : Nat) (v0 : List (Gx.Issue)) (p1 : Int × Int) : Option (Sum (Int × Int) (Cut (Int) (Int))) :=
 sel (decide (p1.2 < (v0.length : Int)))
  (bnd (getI v0 p1.2) fun x1 =>
  bnd (l_szIssue N x1 p1.1) fun x2 =>
  sel (decide (x2 < 0))
   (some (.inr (.rt ((-1)))))
   (some (.inl (x2, w64 (p1.2 + 1)))))
  (some (.inr (.nx p1.1)))
def l_szIssueS (N : Nat) (v0 : List (Gx.Issue)) (v1 : Int) : Option (Int) :=
 sel (decide ((w64 (v1 - (v0.length : Int))) < 0))
  (some (-1))
  (cutb (α := Int) (
   loopN (l_szIssueS_L1 N v0) N (w64 (v1 - (v0.length : Int)), 0)) fun t3 =>
  some t3)
def l_szUsed (N : Nat) (v0 : Gx.Used) (v1 : Int) : Option (Int) :=
 sel (decide ((w64 (v1 - (v0.mWord.length : Int))) < 0))
  (some (-1))
  (some (w64 (v1 - (v0.mWord.length : Int))))
def l_szUsedS_L1 (N : Nat) (v0 : List (Gx.Used)) (p1 : Int × Int) : Option (Sum (Int × Int) (Cut (Int) (Int))) :=
 sel (decide (p1.2 < (v0.length : Int)))
  (bnd (getI v0 p1.2) fun x1 =>
  bnd (l_szUsed N x1 p1.1) fun x2 =>
  sel (decide (x2 < 0))
   (some (.inr (.rt ((-1)))))
   (some (.inl (x2, w64 (p1.2 + 1)))))
  (some (.inr (.nx p1.1)))
def l_szUsedS (N : Nat) (v0 : List (Gx.Used)) (v1 : Int) : Option (Int) :=
 sel (decide ((w64 (v1 - (v0.length : Int))) < 0))
  (some (-1))
  (cutb (α := Int) (
   loopN (l_szUsedS_L1 N v0) N (w64 (v1 - (v0.length : Int)), 0)) fun t3 =>
  some t3)
def l_szCorrection (N : Nat) (v0 : Gx.Correction) (v1 : Int) : Option (Int) :=
 bnd (l_szClue N v0.mClue v1) fun x1 =>
 sel (decide (x1 < 0))
  (some (-1))
  (some x1)
def l_szCorrectionS_L1 (N : Nat) (v0 : List (Gx.Correction)) (p1 : Int × Int) : Option (Sum (Int × Int) (Cut (Int) (Int))) :=
 sel (decide (p1.2 < (v0.length : Int)))
  (bnd (getI v0 p1.2) fun x1 =>
  bnd (l_szCorrection N x1 p1.1) fun x2 =>
  sel (decide (x2 < 0))
   (some (.inr (.rt ((-1)))))
   (some (.inl (x2, w64 (p1.2 + 1)))))
  (some (.inr (.nx p1.1)))
def l_szCorrectionS (N : Nat) (v0 : List (Gx.Correction)) (v1 : Int) : Option (Int) :=
 sel (decide ((w64 (v1 - (v0.length : Int))) < 0))
  (some (-1))
  (cutb (α := Int) (
   loopN (l_szCorrectionS_L1 N v0) N (w64 (v1 - (v0.length : Int)), 0)) fun t3 =>
  some t3)
def l_szEntry (N : Nat) (v0 : Gx.Entry) (v1 : Int) : Option (Int) :=
 sel (decide ((w64 (v1 - (v0.mFill.length : Int))) < 0))
  (some (-1))
  (some (w64 (v1 - (v0.mFill.length : Int))))
def l_szEntryS_L1 (N : Nat) (v0 : List (Gx.Entry)) (p1 : Int × Int) : Option (Sum (Int × Int) (Cut (Int) (Int))) :=
 sel (decide (p1.2 < (v0.length : Int)))
  (bnd (getI v0 p1.2) fun x1 =>
  bnd (l_szEntry N x1 p1.1) fun x2 =>
  sel (decide (x2 < 0))
   (some (.inr (.rt ((-1)))))
   (some (.inl (x2, w64 (p1.2 + 1)))))
  (some (.inr (.nx p1.1)))
def l_szEntryS (N : Nat) (v0 : List (Gx.Entry)) (v1 : Int) : Option (Int) :=
 sel (decide ((w64 (v1 - (v0.length : Int))) < 0))
  (some (-1))
  (cutb (α := Int) (
   loopN (l_szEntryS_L1 N v0) N (w64 (v1 - (v0.length : Int)), 0)) fun t3 =>
  some t3)
def l_szHouse (N : Nat) (v0 : Gx.House) (v1 : Int) : Option (Int) :=
 bnd (l_szListedS N v0.mList v1) fun x1 =>
 sel (decide (x1 < 0))
  (some (-1))
  (bnd (l_szMeaningS N v0.mDict x1) fun x2 =>
  sel (decide (x2 < 0))
   (some (-1))
   (bnd (l_szDraft N v0.mDesk x2) fun x3 =>
   sel (decide (x3 < 0))
    (some (-1))
    (bnd (l_szIssueS N v0.mIssues x3) fun x4 =>
    sel (decide (x4 < 0))
     (some (-1))
     (bnd (l_szUsedS N v0.mUses x4) fun x5 =>
     sel (decide (x5 < 0))
      (some (-1))
      (bnd (l_szCorrectionS N v0.mCorrections x5) fun x6 =>
      sel (decide (x6 < 0))
       (some (-1))
       (bnd (l_szEntryS N v0.mEntries x6) fun x7 =>
       sel (decide (x7 < 0))
        (some (-1))
        (some x7)))))))
def l_toListed (N : Nat) (v0 : Gx.Listed) : Option (Gx.Listed) :=
 some v0
def l_toListedS_L1 (N : Nat) (v0 : List (Gx.Listed)) (p1 : (List (Gx.Listed)) × Int) : Option (Sum ((List (Gx.Listed)) × Int) ((List (Gx.Listed)))) :=
 sel (decide (p1.2 < (v0.length : Int)))
  (bnd (getI v0 p1.2) fun x1 =>
  bnd (l_toListed N x1) fun x2 =>
  bnd (getI p1.1 p1.2) fun x3 =>
  some (.inl (List.set p1.1 (Int.toNat p1.2) x2, w64 (p1.2 + 1))))
  (some (.inr (p1.1)))
def l_toListedS (N : Nat) (v0 : List (Gx.Listed)) : Option ((List (Gx.Listed))) :=
 chk (0 ≤ (v0.length : Int) ∧ (v0.length : Int) ≤ 274877906944) <|
 bnd (α := (List (Gx.Listed))) (
  loopN (l_toListedS_L1 N v0) N (List.replicate (Int.toNat (v0.length : Int)) (⟨([] : List UInt8), 0, 0, 0⟩ : Gx.Listed), 0)) fun t4 =>
 some t4
def l_toMeaning (N : Nat) (v0 : Gx.Meaning) : Option (Gx.Meaning) :=
 some v0
def l_toMeaningS_L1 (N : Nat) (v0 : List (Gx.Meaning)) (p1 : (List (Gx.Meaning)) × Int) : Option (Sum ((List (Gx.Meaning)) × Int) ((List (Gx.Meaning)))) :=
 sel (decide (p1.2 < (v0.length : Int)))
  (bnd (getI v0 p1.2) fun x1 =>
  bnd (l_toMeaning N x1) fun x2 =>
  bnd (getI p1.1 p1.2) fun x3 =>
  some (.inl (List.set p1.1 (Int.toNat p1.2) x2, w64 (p1.2 + 1))))
  (some (.inr (p1.1)))
def l_toMeaningS (N : Nat) (v0 : List (Gx.Meaning)) : Option ((List (Gx.Meaning))) :=
 chk (0 ≤ (v0.length : Int) ∧ (v0.length : Int) ≤ 274877906944) <|
 bnd (α := (List (Gx.Meaning))) (
  loopN (l_toMeaningS_L1 N v0) N (List.replicate (Int.toNat (v0.length : Int)) (⟨([] : List UInt8), 0⟩ : Gx.Meaning), 0)) fun t4 =>
 some t4
def l_toGrid (N : Nat) (v0 : Gx.Grid) : Option (Gx.Grid) :=
 some v0
def l_toStep (N : Nat) (v0 : Gx.Step) : Option (Gx.Step) :=
 some v0
def l_toStepS_L1 (N : Nat) (v0 : List (Gx.Step)) (p1 : (List (Gx.Step)) × Int) : Option (Sum ((List (Gx.Step)) × Int) ((List (Gx.Step)))) :=
 sel (decide (p1.2 < (v0.length : Int)))
  (bnd (getI v0 p1.2) fun x1 =>
  bnd (l_toStep N x1) fun x2 =>
  bnd (getI p1.1 p1.2) fun x3 =>
  some (.inl (List.set p1.1 (Int.toNat p1.2) x2, w64 (p1.2 + 1))))
  (some (.inr (p1.1)))
def l_toStepS (N : Nat) (v0 : List (Gx.Step)) : Option ((List (Gx.Step))) :=
 chk (0 ≤ (v0.length : Int) ∧ (v0.length : Int) ≤ 274877906944) <|
 bnd (α := (List (Gx.Step))) (
  loopN (l_toStepS_L1 N v0) N (List.replicate (Int.toNat (v0.length : Int)) (⟨0, ([] : List UInt8), 0, 0⟩ : Gx.Step), 0)) fun t4 =>
 some t4
def l_toClue (N : Nat) (v0 : Gx.Clue) : Option (Gx.Clue) :=
 bnd (l_toStepS N v0.mPlay) fun x1 =>
 some (⟨v0.mSense, x1⟩ : Gx.Clue)
def l_toClueS_L1 (N : Nat) (v0 : List (Gx.Clue)) (p1 : (List (Gx.Clue)) × Int) : Option (Sum ((List (Gx.Clue)) × Int) ((List (Gx.Clue)))) :=
 sel (decide (p1.2 < (v0.length : Int)))
  (bnd (getI v0 p1.2) fun x1 =>
  bnd (l_toClue N x1) fun x2 =>
  bnd (getI p1.1 p1.2) fun x3 =>
  some (.inl (List.set p1.1 (Int.toNat p1.2) x2, w64 (p1.2 + 1))))
  (some (.inr (p1.1)))
def l_toClueS (N : Nat) (v0 : List (Gx.Clue)) : Option ((List (Gx.Clue))) :=
 chk (0 ≤ (v0.length : Int) ∧ (v0.length : Int) ≤ 274877906944) <|
 bnd (α := (List (Gx.Clue))) (
  loopN (l_toClueS_L1 N v0) N (List.replicate (Int.toNat (v0.length : Int)) (⟨0, []⟩ : Gx.Clue), 0)) fun t4 =>
 some t4
def l_toDraft (N : Nat) (v0 : Gx.Draft) : Option (Gx.Draft) :=
 bnd (l_toGrid N v0.mGrid) fun x1 =>
 bnd (l_toClueS N v0.mClues) fun x2 =>
 some (⟨(⟨x1.mRows, x1.mCols, x1.mCells⟩ : Gx.Grid), v0.mFill, x2, v0.mVersion⟩ : Gx.Draft)
def l_toIntS_L1 (N : Nat) (v0 : List (Int)) (p1 : (List (Int)) × Int) : Option (Sum ((List (Int)) × Int) ((List (Int)))) :=
 sel (decide (p1.2 < (v0.length : Int)))
  (bnd (getI v0 p1.2) fun x1 =>
  bnd (getI p1.1 p1.2) fun x2 =>
  some (.inl (List.set p1.1 (Int.toNat p1.2) x1, w64 (p1.2 + 1))))
  (some (.inr (p1.1)))
def l_toIntS (N : Nat) (v0 : List (Int)) : Option ((List (Int))) :=
 chk (0 ≤ (v0.length : Int) ∧ (v0.length : Int) ≤ 274877906944) <|
 bnd (α := (List (Int))) (
  loopN (l_toIntS_L1 N v0) N (List.replicate (Int.toNat (v0.length : Int)) 0, 0)) fun t3 =>
 some t3
def l_toPuzzle (N : Nat) (v0 : Gx.Puzzle) : Option (Gx.Puzzle) :=
 bnd (l_toGrid N v0.mGrid) fun x1 =>
 bnd (l_toClueS N v0.mClues) fun x2 =>
 bnd (l_toIntS N v0.mSeals) fun x3 =>
 some (⟨(⟨x1.mRows, x1.mCols, x1.mCells⟩ : Gx.Grid), x2, x3, v0.mSalt⟩ : Gx.Puzzle)
def l_toIssue (N : Nat) (v0 : Gx.Issue) : Option (Gx.Issue) :=
 bnd (l_toPuzzle N v0.mPuzzle) fun x1 =>
 some (⟨v0.mNumber, (⟨(⟨x1.mGrid.mRows, x1.mGrid.mCols, x1.mGrid.mCells⟩ : Gx.Grid), x1.mClues, x1.mSeals, x1.mSalt⟩ : Gx.Puzzle), v0.mFill, v0.mOpen, v0.mClose⟩ : Gx.Issue)
def l_toIssueS_L1 (N : Nat) (v0 : List (Gx.Issue)) (p1 : (List (Gx.Issue)) × Int) : Option (Sum ((List (Gx.Issue)) × Int) ((List (Gx.Issue)))) :=
 sel (decide (p1.2 < (v0.length : Int)))
  (bnd (getI v0 p1.2) fun x1 =>
  bnd (l_toIssue N x1) fun x2 =>
  bnd (getI p1.1 p1.2) fun x3 =>
  some (.inl (List.set p1.1 (Int.toNat p1.2) x2, w64 (p1.2 + 1))))
  (some (.inr (p1.1)))
def l_toIssueS (N : Nat) (v0 : List (Gx.Issue)) : Option ((List (Gx.Issue))) :=
 chk (0 ≤ (v0.length : Int) ∧ (v0.length : Int) ≤ 274877906944) <|
 bnd (α := (List (Gx.Issue))) (
  loopN (l_toIssueS_L1 N v0) N (List.replicate (Int.toNat (v0.length : Int)) (⟨0, (⟨(⟨0, 0, ([] : List UInt8)⟩ : Gx.Grid), [], [], 0⟩ : Gx.Puzzle), ([] : List UInt8), 0, 0⟩ : Gx.Issue), 0)) fun t4 =>
 some t4
def l_toUsed (N : Nat) (v0 : Gx.Used) : Option (Gx.Used) :=
 some v0
def l_toUsedS_L1 (N : Nat) (v0 : List (Gx.Used)) (p1 : (List (Gx.Used)) × Int) : Option (Sum ((List (Gx.Used)) × Int) ((List (Gx.Used)))) :=
 sel (decide (p1.2 < (v0.length : Int)))
  (bnd (getI v0 p1.2) fun x1 =>
  bnd (l_toUsed N x1) fun x2 =>
  bnd (getI p1.1 p1.2) fun x3 =>
  some (.inl (List.set p1.1 (Int.toNat p1.2) x2, w64 (p1.2 + 1))))
  (some (.inr (p1.1)))
def l_toUsedS (N : Nat) (v0 : List (Gx.Used)) : Option ((List (Gx.Used))) :=
 chk (0 ≤ (v0.length : Int) ∧ (v0.length : Int) ≤ 274877906944) <|
 bnd (α := (List (Gx.Used))) (
  loopN (l_toUsedS_L1 N v0) N (List.replicate (Int.toNat (v0.length : Int)) (⟨([] : List UInt8), 0⟩ : Gx.Used), 0)) fun t4 =>
 some t4
def l_toCorrection (N : Nat) (v0 : Gx.Correction) : Option (Gx.Correction) :=
 bnd (l_toClue N v0.mClue) fun x1 =>
 some (⟨v0.mIssue, v0.mSlot, (⟨x1.mSense, x1.mPlay⟩ : Gx.Clue), v0.mTick⟩ : Gx.Correction)
def l_toCorrectionS_L1 (N : Nat) (v0 : List (Gx.Correction)) (p1 : (List (Gx.Correction)) × Int) : Option (Sum ((List (Gx.Correction)) × Int) ((List (Gx.Correction)))) :=
 sel (decide (p1.2 < (v0.length : Int)))
  (bnd (getI v0 p1.2) fun x1 =>
  bnd (l_toCorrection N x1) fun x2 =>
  bnd (getI p1.1 p1.2) fun x3 =>
  some (.inl (List.set p1.1 (Int.toNat p1.2) x2, w64 (p1.2 + 1))))
  (some (.inr (p1.1)))
def l_toCorrectionS (N : Nat) (v0 : List (Gx.Correction)) : Option ((List (Gx.Correction))) :=
 chk (0 ≤ (v0.length : Int) ∧ (v0.length : Int) ≤ 274877906944) <|
 bnd (α := (List (Gx.Correction))) (
  loopN (l_toCorrectionS_L1 N v0) N (List.replicate (Int.toNat (v0.length : Int)) (⟨0, 0, (⟨0, []⟩ : Gx.Clue), 0⟩ : Gx.Correction), 0)) fun t4 =>
 some t4
def l_toEntry (N : Nat) (v0 : Gx.Entry) : Option (Gx.Entry) :=
 some v0
def l_toEntryS_L1 (N : Nat) (v0 : List (Gx.Entry)) (p1 : (List (Gx.Entry)) × Int) : Option (Sum ((List (Gx.Entry)) × Int) ((List (Gx.Entry)))) :=
 sel (decide (p1.2 < (v0.length : Int)))
  (bnd (getI v0 p1.2) fun x1 =>
  bnd (l_toEntry N x1) fun x2 =>
  bnd (getI p1.1 p1.2) fun x3 =>
  some (.inl (List.set p1.1 (Int.toNat p1.2) x2, w64 (p1.2 + 1))))
  (some (.inr (p1.1)))
def l_toEntryS (N : Nat) (v0 : List (Gx.Entry)) : Option ((List (Gx.Entry))) :=
 chk (0 ≤ (v0.length : Int) ∧ (v0.length : Int) ≤ 274877906944) <|
 bnd (α := (List (Gx.Entry))) (
  loopN (l_toEntryS_L1 N v0) N (List.replicate (Int.toNat (v0.length : Int)) (⟨0, 0, 0, ([] : List UInt8)⟩ : Gx.Entry), 0)) fun t4 =>
 some t4
def l_toHouse (N : Nat) (v0 : Gx.House) : Option (Gx.House) :=
 bnd (l_toListedS N v0.mList) fun x1 =>
 bnd (l_toMeaningS N v0.mDict) fun x2 =>
 bnd (l_toDraft N v0.mDesk) fun x3 =>
 bnd (l_toIssueS N v0.mIssues) fun x4 =>
 bnd (l_toUsedS N v0.mUses) fun x5 =>
 bnd (l_toCorrectionS N v0.mCorrections) fun x6 =>
 bnd (l_toEntryS N v0.mEntries) fun x7 =>
 some (⟨x1, x2, (⟨(⟨x3.mGrid.mRows, x3.mGrid.mCols, x3.mGrid.mCells⟩ : Gx.Grid), x3.mFill, x3.mClues, x3.mVersion⟩ : Gx.Draft), x4, x5, x6, x7, v0.mNow⟩ : Gx.House)
def s_l18Copy (N : Nat) (v0 : Gx.Clue) : Option (Gx.Clue) :=
 chk (([] : List (Gx.Step)).length + v0.mPlay.length ≤ 274877906944) <|
 some v0
def s_l21Clues_L1 (N : Nat) (v0 : List (Gx.Clue)) (p1 : (List (Gx.Clue)) × Int) : Option (Sum ((List (Gx.Clue)) × Int) ((List (Gx.Clue)))) :=
 sel (decide (p1.2 < (v0.length : Int)))
  (bnd (getI v0 p1.2) fun x1 =>
  bnd (s_l18Copy N x1) fun x2 =>
  chk (p1.1.length + ([x2]).length ≤ 274877906944) <|
  some (.inl (p1.1 ++ ([x2]), w64 (p1.2 + 1))))
  (some (.inr (p1.1)))
def s_l21Clues (N : Nat) (v0 : List (Gx.Clue)) : Option ((List (Gx.Clue))) :=
 bnd (α := (List (Gx.Clue))) (
  loopN (s_l21Clues_L1 N v0) N ([], 0)) fun t3 =>
 some t3
def s_l27Copy (N : Nat) (v0 : Gx.Draft) : Option (Gx.Draft) :=
 bnd (s_l21Clues N v0.mClues) fun x1 =>
 some (⟨(⟨v0.mGrid.mRows, v0.mGrid.mCols, v0.mGrid.mCells⟩ : Gx.Grid), v0.mFill, x1, v0.mVersion⟩ : Gx.Draft)
def s_l31Copy_L1 (N : Nat) (v0 : List (Gx.Correction)) (p1 : (List (Gx.Correction)) × Int) : Option (Sum ((List (Gx.Correction)) × Int) ((List (Gx.Correction)))) :=
 sel (decide (p1.2 < (v0.length : Int)))
  (bnd (getI v0 p1.2) fun x1 =>
  bnd (s_l18Copy N x1.mClue) fun x2 =>
  chk (p1.1.length + ([(⟨x1.mIssue, x1.mSlot, (⟨x2.mSense, x2.mPlay⟩ : Gx.Clue), x1.mTick⟩ : Gx.Correction)]).length ≤ 274877906944) <|
  some (.inl (p1.1 ++ ([(⟨x1.mIssue, x1.mSlot, (⟨x2.mSense, x2.mPlay⟩ : Gx.Clue), x1.mTick⟩ : Gx.Correction)]), w64 (p1.2 + 1))))
  (some (.inr (p1.1)))
def s_l31Copy (N : Nat) (v0 : List (Gx.Correction)) : Option ((List (Gx.Correction))) :=
 bnd (α := (List (Gx.Correction))) (
  loopN (s_l31Copy_L1 N v0) N ([], 0)) fun t3 =>
 some t3
def s_l21Copy (N : Nat) (v0 : Gx.Puzzle) : Option (Gx.Puzzle) :=
 bnd (s_l21Clues N v0.mClues) fun x1 =>
 chk (([] : List (Int)).length + v0.mSeals.length ≤ 274877906944) <|
 some (⟨(⟨v0.mGrid.mRows, v0.mGrid.mCols, v0.mGrid.mCells⟩ : Gx.Grid), x1, v0.mSeals, v0.mSalt⟩ : Gx.Puzzle)
def s_l30Copy (N : Nat) (v0 : Gx.Issue) : Option (Gx.Issue) :=
 bnd (s_l21Copy N v0.mPuzzle) fun x1 =>
 some (⟨v0.mNumber, (⟨(⟨x1.mGrid.mRows, x1.mGrid.mCols, x1.mGrid.mCells⟩ : Gx.Grid), x1.mClues, x1.mSeals, x1.mSalt⟩ : Gx.Puzzle), v0.mFill, v0.mOpen, v0.mClose⟩ : Gx.Issue)
def s_l33Copy_L1 (N : Nat) (v0 : Gx.House) (p1 : (List (Gx.Issue)) × Int) : Option (Sum ((List (Gx.Issue)) × Int) ((List (Gx.Issue)))) :=
 sel (decide (p1.2 < (v0.mIssues.length : Int)))
  (bnd (getI v0.mIssues p1.2) fun x3 =>
  bnd (s_l30Copy N x3) fun x4 =>
  chk (p1.1.length + ([x4]).length ≤ 274877906944) <|
  some (.inl (p1.1 ++ ([x4]), w64 (p1.2 + 1))))
  (some (.inr (p1.1)))
def s_l33Copy (N : Nat) (v0 : Gx.House) : Option (Gx.House) :=
 chk (([] : List (Gx.Listed)).length + v0.mList.length ≤ 274877906944) <|
 chk (([] : List (Gx.Meaning)).length + v0.mDict.length ≤ 274877906944) <|
 bnd (s_l27Copy N v0.mDesk) fun x1 =>
 chk (([] : List (Gx.Used)).length + v0.mUses.length ≤ 274877906944) <|
 bnd (s_l31Copy N v0.mCorrections) fun x2 =>
 chk (([] : List (Gx.Entry)).length + v0.mEntries.length ≤ 274877906944) <|
 bnd (α := (List (Gx.Issue))) (
  loopN (s_l33Copy_L1 N v0) N ([], 0)) fun t5 =>
 some (⟨v0.mList, v0.mDict, (⟨(⟨x1.mGrid.mRows, x1.mGrid.mCols, x1.mGrid.mCells⟩ : Gx.Grid), x1.mFill, x1.mClues, x1.mVersion⟩ : Gx.Draft), t5, v0.mUses, x2, v0.mEntries, v0.mNow⟩ : Gx.House)
def s_l1In (N : Nat) (v0 : Int) (v1 : Int) (v2 : Int) : Option (Bool) :=
 sel (decide (v0 ≥ v1))
  (some (decide (v0 ≤ v2)))
  (some false)
def s_IsGrid_L1 (N : Nat) (v0 : Gx.Grid) (p1 : Int) : Option (Sum (Int) (Cut (Unit) (Bool))) :=
 sel (decide (p1 < (v0.mCells.length : Int)))
  (chk (0 ≤ p1 ∧ p1 < (v0.mCells.length : Int)) <|
  sel ((byteI v0.mCells p1) != 35)
   (chk (0 ≤ p1 ∧ p1 < (v0.mCells.length : Int)) <|
   sel ((byteI v0.mCells p1) != 46)
    (some (.inr (.rt (false))))
    (some (.inl (w64 (p1 + 1)))))
   (some (.inl (w64 (p1 + 1)))))
  (some (.inr (.nx ())))
def s_IsGrid (N : Nat) (v0 : Gx.Grid) : Option (Bool) :=
 bnd (s_l1In N v0.mRows 2 6) fun x1 =>
 sel (!x1)
  (some false)
  (bnd (s_l1In N v0.mCols 2 6) fun x2 =>
  sel (!x2)
   (some false)
   (sel ((v0.mCells.length : Int) != (w64 (v0.mRows * v0.mCols)))
    (some false)
    (cutb (α := Unit) (
     loopN (s_IsGrid_L1 N v0) N 0) fun t3 =>
    some true)))
def s_Backwards_L1 (N : Nat) (v0 : List UInt8) (p1 : (List UInt8) × Int) : Option (Sum ((List UInt8) × Int) ((List UInt8))) :=
 sel (decide (p1.2 < (v0.length : Int)))
  (sel (decide ((v0.length : Int) ≤ 100))
   (chk (0 ≤ p1.2 ∧ p1.2 ≤ (w64 (p1.2 + 1)) ∧ (w64 (p1.2 + 1)) ≤ (v0.length : Int)) <|
   chk ((sub v0 p1.2 (w64 (p1.2 + 1))).length + p1.1.length ≤ 274877906944) <|
   some (.inl ((sub v0 p1.2 (w64 (p1.2 + 1))) ++ p1.1, w64 (p1.2 + 1))))
   (some (.inr (p1.1))))
  (some (.inr (p1.1)))
def s_Backwards (N : Nat) (v0 : List UInt8) : Option ((List UInt8)) :=
 bnd (α := (List UInt8)) (
  loopN (s_Backwards_L1 N v0) N (([] : List UInt8), 0)) fun t1 =>
 some t1
def s_TurnGrid (N : Nat) (v0 : Gx.Grid) : Option (Gx.Grid) :=
 bnd (s_IsGrid N v0) fun x1 =>
 sel (!x1)
  (some (⟨0, 0, ([] : List UInt8)⟩ : Gx.Grid))
  (bnd (s_Backwards N v0.mCells) fun x2 =>
  some (⟨v0.mRows, v0.mCols, x2⟩ : Gx.Grid))
def s_IsSymmetric (N : Nat) (v0 : Gx.Grid) : Option (Bool) :=
 bnd (s_IsGrid N v0) fun x1 =>
 sel (x1)
  (bnd (s_TurnGrid N v0) fun x2 =>
  some (x2.mRows == v0.mRows && (x2.mCols == v0.mCols && (x2.mCells == v0.mCells && true))))
  (some false)
def s_l10Reach_L2 (N : Nat) (v0 : Gx.Grid) (p2 : (List (Bool)) × Bool × Int) : Option (Sum ((List (Bool)) × Bool × Int) (Sum ((List (Bool)) × Bool) ((List (Bool))))) :=
 sel (decide (p2.2.2 < (p2.1.length : Int)))
  (bnd (getI p2.1 p2.2.2) fun x2 =>
  sel (x2)
   (some (.inl (p2.1, p2.2.1, w64 (p2.2.2 + 1))))
   (chk (0 ≤ p2.2.2 ∧ p2.2.2 < (v0.mCells.length : Int)) <|
   sel ((byteI v0.mCells p2.2.2) != 46)
    (some (.inl (p2.1, p2.2.1, w64 (p2.2.2 + 1))))
    (chk ((v0.mCols : Int) ≠ 0) <|
    bnd (α := Bool) (
     sel (decide ((Int.tmod p2.2.2 v0.mCols) > 0))
      (bnd (getI p2.1 (w64 (p2.2.2 - 1))) fun x3 =>
      sel (x3)
       (some true)
       (sel (decide ((w64 ((Int.tmod p2.2.2 v0.mCols) + 1)) < v0.mCols))
        (bnd (getI p2.1 (w64 (p2.2.2 + 1))) fun x4 =>
        sel (x4)
         (some true)
         (sel (decide (p2.2.2 ≥ v0.mCols))
          (bnd (getI p2.1 (w64 (p2.2.2 - v0.mCols))) fun x5 =>
          sel (x5)
           (some true)
           (sel (decide ((w64 (p2.2.2 + v0.mCols)) < (p2.1.length : Int)))
            (bnd (getI p2.1 (w64 (p2.2.2 + v0.mCols))) fun x6 =>
            some x6)
            (some false)))
          (sel (decide ((w64 (p2.2.2 + v0.mCols)) < (p2.1.length : Int)))
           (bnd (getI p2.1 (w64 (p2.2.2 + v0.mCols))) fun x7 =>
           some x7)
           (some false))))
        (sel (decide (p2.2.2 ≥ v0.mCols))
         (bnd (getI p2.1 (w64 (p2.2.2 - v0.mCols))) fun x8 =>
         sel (x8)
          (some true)
          (sel (decide ((w64 (p2.2.2 + v0.mCols)) < (p2.1.length : Int)))
           (bnd (getI p2.1 (w64 (p2.2.2 + v0.mCols))) fun x9 =>
           some x9)
           (some false)))
         (sel (decide ((w64 (p2.2.2 + v0.mCols)) < (p2.1.length : Int)))
          (bnd (getI p2.1 (w64 (p2.2.2 + v0.mCols))) fun x10 =>
          some x10)
          (some false)))))
      (sel (decide ((w64 ((Int.tmod p2.2.2 v0.mCols) + 1)) < v0.mCols))
       (bnd (getI p2.1 (w64 (p2.2.2 + 1))) fun x11 =>
       sel (x11)
        (some true)
        (sel (decide (p2.2.2 ≥ v0.mCols))
         (bnd (getI p2.1 (w64 (p2.2.2 - v0.mCols))) fun x12 =>
         sel (x12)
          (some true)
          (sel (decide ((w64 (p2.2.2 + v0.mCols)) < (p2.1.length : Int)))
           (bnd (getI p2.1 (w64 (p2.2.2 + v0.mCols))) fun x13 =>
           some x13)
           (some false)))
         (sel (decide ((w64 (p2.2.2 + v0.mCols)) < (p2.1.length : Int)))
          (bnd (getI p2.1 (w64 (p2.2.2 + v0.mCols))) fun x14 =>
          some x14)
          (some false))))
       (sel (decide (p2.2.2 ≥ v0.mCols))
        (bnd (getI p2.1 (w64 (p2.2.2 - v0.mCols))) fun x15 =>
        sel (x15)
         (some true)
         (sel (decide ((w64 (p2.2.2 + v0.mCols)) < (p2.1.length : Int)))
          (bnd (getI p2.1 (w64 (p2.2.2 + v0.mCols))) fun x16 =>
          some x16)
          (some false)))
        (sel (decide ((w64 (p2.2.2 + v0.mCols)) < (p2.1.length : Int)))
         (bnd (getI p2.1 (w64 (p2.2.2 + v0.mCols))) fun x17 =>
         some x17)
         (some false))))) fun t18 =>
    sel (t18)
     (bnd (getI p2.1 p2.2.2) fun x19 =>
     some (.inl (List.set p2.1 (Int.toNat p2.2.2) true, true, w64 (p2.2.2 + 1))))
     (some (.inl (p2.1, p2.2.1, w64 (p2.2.2 + 1)))))))
  (some (.inr (.inl (p2.1, p2.2.1))))
def s_l10Reach_L1 (N : Nat) (v0 : Gx.Grid) (p1 : (List (Bool)) × Bool) : Option (Sum ((List (Bool)) × Bool) ((List (Bool)))) :=
 sel (p1.2)
  (loopN (s_l10Reach_L2 N v0) N (p1.1, false, 0))
  (some (.inr (p1.1)))
def s_l10Reach (N : Nat) (v0 : Gx.Grid) (v1 : List (Bool)) (v2 : Int) : Option ((List (Bool))) :=
 bnd (getI v1 v2) fun x1 =>
 bnd (α := (List (Bool))) (
  loopN (s_l10Reach_L1 N v0) N (List.set v1 (Int.toNat v2) true, true)) fun t20 =>
 some t20
def s_PartsOf_L1 (N : Nat) (v0 : Gx.Grid) (p1 : (List (Bool)) × Int) : Option (Sum ((List (Bool)) × Int) ((List (Bool)))) :=
 sel (decide (p1.2 < (v0.mCells.length : Int)))
  (chk (p1.1.length + ([false]).length ≤ 274877906944) <|
  some (.inl (p1.1 ++ ([false]), w64 (p1.2 + 1))))
  (some (.inr (p1.1)))
def s_PartsOf_L3 (N : Nat) (p2 : Int × (List (Bool)) × Int) (p3 : (List (Bool)) × Int) : Option (Sum ((List (Bool)) × Int) ((List (Bool)))) :=
 sel (decide (p3.2 < (p2.2.1.length : Int)))
  (chk (p3.1.length + ([false]).length ≤ 274877906944) <|
  some (.inl (p3.1 ++ ([false]), w64 (p3.2 + 1))))
  (some (.inr (p3.1)))
def s_PartsOf_L4 (N : Nat) (x6 : (List (Bool))) (p2 : Int × (List (Bool)) × Int) (p4 : (List (Bool)) × Int) : Option (Sum ((List (Bool)) × Int) (Int × (List (Bool)))) :=
 sel (decide (p4.2 < (p4.1.length : Int)))
  (bnd (getI p4.1 p4.2) fun x7 =>
  sel (x7)
   (bnd (getI p4.1 p4.2) fun x8 =>
   some (.inl (List.set p4.1 (Int.toNat p4.2) true, w64 (p4.2 + 1))))
   (bnd (getI x6 p4.2) fun x9 =>
   bnd (getI p4.1 p4.2) fun x10 =>
   some (.inl (List.set p4.1 (Int.toNat p4.2) x9, w64 (p4.2 + 1)))))
  (some (.inr ((w64 (p2.1 + 1), p4.1))))
def s_PartsOf_L2 (N : Nat) (v0 : Gx.Grid) (p2 : Int × (List (Bool)) × Int) : Option (Sum (Int × (List (Bool)) × Int) (Int)) :=
 sel (decide (p2.2.2 < (v0.mCells.length : Int)))
  (bnd (s_IsGrid N v0) fun x2 =>
  sel (x2)
   (bnd (α := Int × (List (Bool))) (
    bnd (α := Bool) (
     chk (0 ≤ p2.2.2 ∧ p2.2.2 < (v0.mCells.length : Int)) <|
     sel ((byteI v0.mCells p2.2.2) == 46)
      (bnd (getI p2.2.1 p2.2.2) fun x3 =>
      some !x3)
      (some false)) fun t4 =>
    sel (t4)
     (bnd (α := (List (Bool))) (
      loopN (s_PartsOf_L3 N p2) N ([], 0)) fun t5 =>
     bnd (s_l10Reach N v0 t5 p2.2.2) fun x6 =>
     loopN (s_PartsOf_L4 N x6 p2) N (p2.2.1, 0))
     (some (p2.1, p2.2.1))) fun t11 =>
   some (.inl (t11.1, t11.2, w64 (p2.2.2 + 1))))
   (some (.inr (p2.1))))
  (some (.inr (p2.1)))
def s_PartsOf (N : Nat) (v0 : Gx.Grid) : Option (Int) :=
 bnd (α := (List (Bool))) (
  loopN (s_PartsOf_L1 N v0) N ([], 0)) fun t1 =>
 bnd (α := Int) (
  loopN (s_PartsOf_L2 N v0) N (0, t1, 0)) fun t12 =>
 some t12
def s_IsConnected (N : Nat) (v0 : Gx.Grid) : Option (Bool) :=
 bnd (s_PartsOf N v0) fun x1 =>
 some (x1 == 1)
def s_l8From_L1 (N : Nat) (t1 : Int × Int × Int) (v1 : Int) (v0 : Gx.Grid) (p1 : Int) : Option (Sum (Int) (Int)) :=
 sel (decide ((w64 (t1.2.1 + p1)) < t1.2.2))
  (chk (0 ≤ (w64 (v1 + (w64 (p1 * t1.1)))) ∧ (w64 (v1 + (w64 (p1 * t1.1)))) < (v0.mCells.length : Int)) <|
  sel ((byteI v0.mCells (w64 (v1 + (w64 (p1 * t1.1))))) == 46)
   (some (.inl (w64 (p1 + 1))))
   (some (.inr (p1))))
  (some (.inr (p1)))
def s_l8From (N : Nat) (v0 : Gx.Grid) (v1 : Int) (v2 : Bool) : Option (Int) :=
 chk ((v0.mCols : Int) ≠ 0) <|
 bnd (α := Int × Int × Int) (
  sel (v2)
   (chk ((v0.mCols : Int) ≠ 0) <|
   some (v0.mCols, w64 (Int.tdiv v1 v0.mCols), v0.mRows))
   (some (1, Int.tmod v1 v0.mCols, v0.mCols))) fun t1 =>
 cutb (α := Unit) (
  chk (0 ≤ v1 ∧ v1 < (v0.mCells.length : Int)) <|
  sel ((byteI v0.mCells v1) != 46)
   (some (.rt (0)))
   (sel (decide (t1.2.1 > 0))
    (chk (0 ≤ (w64 (v1 - t1.1)) ∧ (w64 (v1 - t1.1)) < (v0.mCells.length : Int)) <|
    sel ((byteI v0.mCells (w64 (v1 - t1.1))) == 46)
     (some (.rt (0)))
     (some (.nx ())))
    (some (.nx ())))) fun t2 =>
 bnd (α := Int) (
  loopN (s_l8From_L1 N t1 v1 v0) N 0) fun t3 =>
 some t3
def s_SlotsOf_L1 (N : Nat) (v0 : Gx.Grid) (p1 : (List (Gx.Slot)) × Int × Int) : Option (Sum ((List (Gx.Slot)) × Int × Int) ((List (Gx.Slot)))) :=
 sel (decide (p1.2.2 < (v0.mCells.length : Int)))
  (bnd (s_IsGrid N v0) fun x1 =>
  sel (x1)
   (bnd (s_l8From N v0 p1.2.2 false) fun x2 =>
   bnd (s_l8From N v0 p1.2.2 true) fun x3 =>
   bnd (α := Int) (
    sel (decide (x2 ≥ 2))
     (some (w64 (p1.2.1 + 1)))
     (sel (decide (x3 ≥ 2))
      (some (w64 (p1.2.1 + 1)))
      (some p1.2.1))) fun t4 =>
   bnd (α := (List (Gx.Slot))) (
    sel (decide (x2 ≥ 2))
     (chk (p1.1.length + ([(⟨t4, false, p1.2.2, x2⟩ : Gx.Slot)]).length ≤ 274877906944) <|
     some (p1.1 ++ ([(⟨t4, false, p1.2.2, x2⟩ : Gx.Slot)])))
     (some p1.1)) fun t5 =>
   sel (decide (x3 ≥ 2))
    (chk (t5.length + ([(⟨t4, true, p1.2.2, x3⟩ : Gx.Slot)]).length ≤ 274877906944) <|
    some (.inl (t5 ++ ([(⟨t4, true, p1.2.2, x3⟩ : Gx.Slot)]), t4, w64 (p1.2.2 + 1))))
    (some (.inl (t5, t4, w64 (p1.2.2 + 1)))))
   (some (.inr (p1.1))))
  (some (.inr (p1.1)))
def s_SlotsOf (N : Nat) (v0 : Gx.Grid) : Option ((List (Gx.Slot))) :=
 bnd (α := (List (Gx.Slot))) (
  loopN (s_SlotsOf_L1 N v0) N ([], 0, 0)) fun t6 =>
 some t6
def s_l10Short_L1 (N : Nat) (x1 : (List (Gx.Slot))) (p1 : Int) : Option (Sum (Int) (Cut (Unit) (Bool))) :=
 sel (decide (p1 < (x1.length : Int)))
  (bnd (getI x1 p1) fun x2 =>
  sel (decide (x2.mLength < 3))
   (some (.inr (.rt (true))))
   (some (.inl (w64 (p1 + 1)))))
  (some (.inr (.nx ())))
def s_l10Short (N : Nat) (v0 : Gx.Grid) : Option (Bool) :=
 bnd (s_SlotsOf N v0) fun x1 =>
 cutb (α := Unit) (
  loopN (s_l10Short_L1 N x1) N 0) fun t3 =>
 some false
def s_CellsOf_L2 (N : Nat) (v1 : Gx.Slot) (v0 : Gx.Grid) (p2 : (List (Int)) × Int) : Option (Sum ((List (Int)) × Int) ((List (Int)))) :=
 sel (decide (p2.2 < v1.mLength))
  (sel (v1.mDown)
   (chk (p2.1.length + ([w64 (v1.mCell + (w64 (p2.2 * v0.mCols)))]).length ≤ 274877906944) <|
   some (.inl (p2.1 ++ ([w64 (v1.mCell + (w64 (p2.2 * v0.mCols)))]), w64 (p2.2 + 1))))
   (chk (p2.1.length + ([w64 (v1.mCell + p2.2)]).length ≤ 274877906944) <|
   some (.inl (p2.1 ++ ([w64 (v1.mCell + p2.2)]), w64 (p2.2 + 1)))))
  (some (.inr (p2.1)))
def s_CellsOf_L1 (N : Nat) (x1 : (List (Gx.Slot))) (v1 : Gx.Slot) (v0 : Gx.Grid) (p1 : (List (Int)) × Int) : Option (Sum ((List (Int)) × Int) ((List (Int)))) :=
 sel (decide (p1.2 < (x1.length : Int)))
  (bnd (α := (List (Int))) (
   bnd (getI x1 p1.2) fun x2 =>
   sel (!(x2.mNumber == v1.mNumber && (x2.mDown == v1.mDown && (x2.mCell == v1.mCell && (x2.mLength == v1.mLength && true)))))
    (some p1.1)
    (loopN (s_CellsOf_L2 N v1 v0) N (p1.1, 0))) fun t3 =>
  some (.inl (t3, w64 (p1.2 + 1))))
  (some (.inr (p1.1)))
def s_CellsOf (N : Nat) (v0 : Gx.Grid) (v1 : Gx.Slot) : Option ((List (Int))) :=
 bnd (s_SlotsOf N v0) fun x1 =>
 bnd (α := (List (Int))) (
  loopN (s_CellsOf_L1 N x1 v1 v0) N ([], 0)) fun t4 =>
 some t4
def s_l8Has_L1 (N : Nat) (v0 : List (Int)) (v1 : Int) (p1 : Int) : Option (Sum (Int) (Cut (Unit) (Bool))) :=
 sel (decide (p1 < (v0.length : Int)))
  (bnd (getI v0 p1) fun x1 =>
  sel (x1 == v1)
   (some (.inr (.rt (true))))
   (some (.inl (w64 (p1 + 1)))))
  (some (.inr (.nx ())))
def s_l8Has (N : Nat) (v0 : List (Int)) (v1 : Int) : Option (Bool) :=
 cutb (α := Unit) (
  loopN (s_l8Has_L1 N v0 v1) N 0) fun t2 =>
 some false
def s_SlotsAt_L1 (N : Nat) (x1 : (List (Gx.Slot))) (v0 : Gx.Grid) (v1 : Int) (p1 : (List (Int)) × Int) : Option (Sum ((List (Int)) × Int) ((List (Int)))) :=
 sel (decide (p1.2 < (x1.length : Int)))
  (bnd (getI x1 p1.2) fun x2 =>
  bnd (s_CellsOf N v0 x2) fun x3 =>
  bnd (s_l8Has N x3 v1) fun x4 =>
  sel (x4)
   (chk (p1.1.length + ([p1.2]).length ≤ 274877906944) <|
   some (.inl (p1.1 ++ ([p1.2]), w64 (p1.2 + 1))))
   (some (.inl (p1.1, w64 (p1.2 + 1)))))
  (some (.inr (p1.1)))
def s_SlotsAt (N : Nat) (v0 : Gx.Grid) (v1 : Int) : Option ((List (Int))) :=
 bnd (s_SlotsOf N v0) fun x1 =>
 bnd (α := (List (Int))) (
  loopN (s_SlotsAt_L1 N x1 v0 v1) N ([], 0)) fun t5 =>
 some t5
def s_IsChecked (N : Nat) (v0 : Gx.Grid) (v1 : Int) : Option (Bool) :=
 bnd (s_SlotsAt N v0 v1) fun x1 =>
 some ((x1.length : Int) == 2)
def s_UncheckedIn_L1 (N : Nat) (x4 : (List (Int))) (v0 : Gx.Grid) (p1 : Int × Int) : Option (Sum (Int × Int) (Int)) :=
 sel (decide (p1.2 < (x4.length : Int)))
  (bnd (getI x4 p1.2) fun x5 =>
  bnd (s_IsChecked N v0 x5) fun x6 =>
  sel (!x6)
   (some (.inl (w64 (p1.1 + 1), w64 (p1.2 + 1))))
   (some (.inl (p1.1, w64 (p1.2 + 1)))))
  (some (.inr (p1.1)))
def s_UncheckedIn (N : Nat) (v0 : Gx.Grid) (v1 : Int) : Option (Int) :=
 bnd (s_SlotsOf N v0) fun x1 =>
 bnd (s_l1In N v1 0 (w64 ((x1.length : Int) - 1))) fun x2 =>
 sel (!x2)
  (some (-1))
  (bnd (getI x1 v1) fun x3 =>
  bnd (s_CellsOf N v0 x3) fun x4 =>
  bnd (α := Int) (
   loopN (s_UncheckedIn_L1 N x4 v0) N (0, 0)) fun t7 =>
  some t7)
def s_IsWhite (N : Nat) (v0 : Gx.Grid) (v1 : Int) : Option (Bool) :=
 bnd (s_IsGrid N v0) fun x1 =>
 sel (x1)
  (bnd (s_l1In N v1 0 (w64 ((v0.mCells.length : Int) - 1))) fun x2 =>
  sel (x2)
   (chk (0 ≤ v1 ∧ v1 < (v0.mCells.length : Int)) <|
   some ((byteI v0.mCells v1) == 46))
   (some false))
  (some false)
def s_l10Alone_L1 (N : Nat) (x1 : (List (Gx.Slot))) (v0 : Gx.Grid) (p1 : Int) : Option (Sum (Int) (Cut (Unit) (Bool))) :=
 sel (decide (p1 < (x1.length : Int)))
  (bnd (s_UncheckedIn N v0 p1) fun x2 =>
  bnd (getI x1 p1) fun x3 =>
  sel (decide ((w64 (2 * x2)) > x3.mLength))
   (some (.inr (.rt (true))))
   (some (.inl (w64 (p1 + 1)))))
  (some (.inr (.nx ())))
def s_l10Alone_L2 (N : Nat) (v0 : Gx.Grid) (p2 : Int) : Option (Sum (Int) (Cut (Unit) (Bool))) :=
 sel (decide (p2 < (v0.mCells.length : Int)))
  (bnd (s_IsWhite N v0 p2) fun x5 =>
  sel (x5)
   (bnd (s_SlotsAt N v0 p2) fun x6 =>
   sel ((x6.length : Int) == 0)
    (some (.inr (.rt (true))))
    (some (.inl (w64 (p2 + 1)))))
   (some (.inl (w64 (p2 + 1)))))
  (some (.inr (.nx ())))
def s_l10Alone (N : Nat) (v0 : Gx.Grid) : Option (Bool) :=
 bnd (s_SlotsOf N v0) fun x1 =>
 cutb (α := Unit) (
  loopN (s_l10Alone_L1 N x1 v0) N 0) fun t4 =>
 cutb (α := Unit) (
  loopN (s_l10Alone_L2 N v0) N 0) fun t7 =>
 some false
def s_FormOf (N : Nat) (v0 : Gx.Grid) : Option (Int) :=
 bnd (s_IsGrid N v0) fun x1 =>
 sel (!x1)
  (some 1)
  (bnd (s_IsSymmetric N v0) fun x2 =>
  sel (!x2)
   (some 2)
   (bnd (s_IsConnected N v0) fun x3 =>
   sel (!x3)
    (some 3)
    (bnd (s_l10Short N v0) fun x4 =>
    sel (x4)
     (some 4)
     (bnd (s_l10Alone N v0) fun x5 =>
     sel (x5)
      (some 5)
      (some 0)))))
def s_EmptyFill_L1 (N : Nat) (v0 : Gx.Grid) (p1 : (List UInt8) × Int) : Option (Sum ((List UInt8) × Int) ((List UInt8))) :=
 sel (decide (p1.2 < (v0.mCells.length : Int)))
  (bnd (s_IsGrid N v0) fun x1 =>
  sel (x1)
   (chk (0 ≤ p1.2 ∧ p1.2 < (v0.mCells.length : Int)) <|
   sel ((byteI v0.mCells p1.2) == 35)
    (chk (p1.1.length + ([35] : List UInt8).length ≤ 274877906944) <|
    some (.inl (p1.1 ++ ([35] : List UInt8), w64 (p1.2 + 1))))
    (chk (p1.1.length + ([63] : List UInt8).length ≤ 274877906944) <|
    some (.inl (p1.1 ++ ([63] : List UInt8), w64 (p1.2 + 1)))))
   (some (.inr (p1.1))))
  (some (.inr (p1.1)))
def s_EmptyFill (N : Nat) (v0 : Gx.Grid) : Option ((List UInt8)) :=
 bnd (α := (List UInt8)) (
  loopN (s_EmptyFill_L1 N v0) N (([] : List UInt8), 0)) fun t2 =>
 some t2
def s_NewDraft_L1 (N : Nat) (v0 : Gx.Grid) (p1 : (List (Gx.Clue)) × Int) : Option (Sum ((List (Gx.Clue)) × Int) ((List (Gx.Clue)))) :=
 bnd (s_SlotsOf N v0) fun x3 =>
 sel (decide (p1.2 < (x3.length : Int)))
  (chk (p1.1.length + ([(⟨0, []⟩ : Gx.Clue)]).length ≤ 274877906944) <|
  some (.inl (p1.1 ++ ([(⟨0, []⟩ : Gx.Clue)]), w64 (p1.2 + 1))))
  (some (.inr (p1.1)))
def s_NewDraft (N : Nat) (v0 : Gx.Grid) : Option (Gx.Draft × Bool) :=
 bnd (s_FormOf N v0) fun x1 =>
 sel (x1 != 0)
  (some ((⟨(⟨0, 0, ([] : List UInt8)⟩ : Gx.Grid), ([] : List UInt8), [], 0⟩ : Gx.Draft), false))
  (bnd (s_EmptyFill N v0) fun x2 =>
  bnd (α := (List (Gx.Clue))) (
   loopN (s_NewDraft_L1 N v0) N ([], 0)) fun t4 =>
  bnd (s_l27Copy N (⟨(⟨v0.mRows, v0.mCols, v0.mCells⟩ : Gx.Grid), x2, t4, 1⟩ : Gx.Draft)) fun x5 =>
  some (x5, true))
def s_StepDesk (N : Nat) (v0 : Gx.House) (v1 : Gx.Grid) : Option (Gx.House × Bool) :=
 bnd (s_l33Copy N v0) fun x1 =>
 bnd (s_NewDraft N v1) fun x2 =>
 sel (!x2.2)
  (some (x1, false))
  (some ((⟨x1.mList, x1.mDict, (⟨(⟨x2.1.mGrid.mRows, x2.1.mGrid.mCols, x2.1.mGrid.mCells⟩ : Gx.Grid), x2.1.mFill, x2.1.mClues, x2.1.mVersion⟩ : Gx.Draft), x1.mIssues, x1.mUses, x1.mCorrections, x1.mEntries, x1.mNow⟩ : Gx.House), true))
def i_copyClue (N : Nat) (v0 : Gx.Clue) : Option (Gx.Clue) :=
 bnd (g_slices_Clone_Simpl_Step_impl_Step N v0.mPlay) fun x1 =>
 some (⟨v0.mSense, x1⟩ : Gx.Clue)
def i_copyClues_L1 (N : Nat) (v0 : List (Gx.Clue)) (p1 : (List (Gx.Clue)) × Int) : Option (Sum ((List (Gx.Clue)) × Int) ((List (Gx.Clue)))) :=
 sel (decide (p1.2 < (v0.length : Int)))
  (bnd (getI v0 p1.2) fun x1 =>
  bnd (i_copyClue N x1) fun x2 =>
  chk (p1.1.length + ([x2]).length ≤ 274877906944) <|
  some (.inl (p1.1 ++ ([x2]), w64 (p1.2 + 1))))
  (some (.inr (p1.1)))
def i_copyClues (N : Nat) (v0 : List (Gx.Clue)) : Option ((List (Gx.Clue))) :=
 bnd (α := (List (Gx.Clue))) (
  loopN (i_copyClues_L1 N v0) N ([], 0)) fun t3 =>
 some t3
def i_copyDraft (N : Nat) (v0 : Gx.Draft) : Option (Gx.Draft) :=
 bnd (i_copyClues N v0.mClues) fun x1 =>
 some (⟨(⟨v0.mGrid.mRows, v0.mGrid.mCols, v0.mGrid.mCells⟩ : Gx.Grid), v0.mFill, x1, v0.mVersion⟩ : Gx.Draft)
def i_copyPuzzle (N : Nat) (v0 : Gx.Puzzle) : Option (Gx.Puzzle) :=
 bnd (i_copyClues N v0.mClues) fun x1 =>
 bnd (g_slices_Clone_Sint_int N v0.mSeals) fun x2 =>
 some (⟨(⟨v0.mGrid.mRows, v0.mGrid.mCols, v0.mGrid.mCells⟩ : Gx.Grid), x1, x2, v0.mSalt⟩ : Gx.Puzzle)
def i_copyIssue (N : Nat) (v0 : Gx.Issue) : Option (Gx.Issue) :=
 bnd (i_copyPuzzle N v0.mPuzzle) fun x1 =>
 some (⟨v0.mNumber, (⟨(⟨x1.mGrid.mRows, x1.mGrid.mCols, x1.mGrid.mCells⟩ : Gx.Grid), x1.mClues, x1.mSeals, x1.mSalt⟩ : Gx.Puzzle), v0.mFill, v0.mOpen, v0.mClose⟩ : Gx.Issue)
def i_copyCorrections_L1 (N : Nat) (v0 : List (Gx.Correction)) (p1 : (List (Gx.Correction)) × Int) : Option (Sum ((List (Gx.Correction)) × Int) ((List (Gx.Correction)))) :=
 sel (decide (p1.2 < (v0.length : Int)))
  (bnd (getI v0 p1.2) fun x1 =>
  bnd (i_copyClue N x1.mClue) fun x2 =>
  chk (p1.1.length + ([(⟨x1.mIssue, x1.mSlot, (⟨x2.mSense, x2.mPlay⟩ : Gx.Clue), x1.mTick⟩ : Gx.Correction)]).length ≤ 274877906944) <|
  some (.inl (p1.1 ++ ([(⟨x1.mIssue, x1.mSlot, (⟨x2.mSense, x2.mPlay⟩ : Gx.Clue), x1.mTick⟩ : Gx.Correction)]), w64 (p1.2 + 1))))
  (some (.inr (p1.1)))
def i_copyCorrections (N : Nat) (v0 : List (Gx.Correction)) : Option ((List (Gx.Correction))) :=
 bnd (α := (List (Gx.Correction))) (
  loopN (i_copyCorrections_L1 N v0) N ([], 0)) fun t3 =>
 some t3
def i_copyHouse_L1 (N : Nat) (v0 : Gx.House) (p1 : (List (Gx.Issue)) × Int) : Option (Sum ((List (Gx.Issue)) × Int) ((List (Gx.Issue)))) :=
 sel (decide (p1.2 < (v0.mIssues.length : Int)))
  (bnd (getI v0.mIssues p1.2) fun x4 =>
  bnd (i_copyIssue N x4) fun x5 =>
  chk (p1.1.length + ([x5]).length ≤ 274877906944) <|
  some (.inl (p1.1 ++ ([x5]), w64 (p1.2 + 1))))
  (some (.inr (p1.1)))
def i_copyHouse (N : Nat) (v0 : Gx.House) : Option (Gx.House) :=
 bnd (g_slices_Clone_Simpl_Listed_impl_Listed N v0.mList) fun x1 =>
 bnd (g_slices_Clone_Simpl_Meaning_impl_Meaning N v0.mDict) fun x2 =>
 bnd (i_copyDraft N v0.mDesk) fun x3 =>
 bnd (α := (List (Gx.Issue))) (
  loopN (i_copyHouse_L1 N v0) N ([], 0)) fun t6 =>
 bnd (g_slices_Clone_Simpl_Used_impl_Used N v0.mUses) fun x7 =>
 bnd (i_copyCorrections N v0.mCorrections) fun x8 =>
 bnd (g_slices_Clone_Simpl_Entry_impl_Entry N v0.mEntries) fun x9 =>
 some (⟨x1, x2, (⟨(⟨x3.mGrid.mRows, x3.mGrid.mCols, x3.mGrid.mCells⟩ : Gx.Grid), x3.mFill, x3.mClues, x3.mVersion⟩ : Gx.Draft), t6, x7, x8, x9, v0.mNow⟩ : Gx.House)
def i_InRange (N : Nat) (v0 : Int) (v1 : Int) (v2 : Int) : Option (Bool) :=
 sel (decide (v1 ≤ v0))
  (some (decide (v0 ≤ v2)))
  (some false)
def i_IsGrid_L1 (N : Nat) (v0 : Gx.Grid) (p1 : Int) : Option (Sum (Int) (Cut (Unit) (Bool))) :=
 sel (decide (p1 < (v0.mCells.length : Int)))
  (chk (0 ≤ p1 ∧ p1 < (v0.mCells.length : Int)) <|
  sel ((byteI v0.mCells p1) != 35)
   (chk (0 ≤ p1 ∧ p1 < (v0.mCells.length : Int)) <|
   sel ((byteI v0.mCells p1) != 46)
    (some (.inr (.rt (false))))
    (some (.inl (w64 (p1 + 1)))))
   (some (.inl (w64 (p1 + 1)))))
  (some (.inr (.nx ())))
def i_IsGrid (N : Nat) (v0 : Gx.Grid) : Option (Bool) :=
 bnd (i_InRange N v0.mRows 2 6) fun x1 =>
 sel (!x1)
  (some false)
  (bnd (i_InRange N v0.mCols 2 6) fun x2 =>
  sel (!x2)
   (some false)
   (sel ((v0.mCells.length : Int) != (w64 (v0.mRows * v0.mCols)))
    (some false)
    (cutb (α := Unit) (
     loopN (i_IsGrid_L1 N v0) N 0) fun t3 =>
    some true)))
def g_slices_Reverse_Sbyte_byte_L1 (N : Nat) (p1 : (List (UInt8)) × Int × Int) : Option (Sum ((List (UInt8)) × Int × Int) ((List (UInt8)))) :=
 sel (decide (p1.2.1 < p1.2.2))
  (bnd (getI p1.1 p1.2.2) fun x1 =>
  bnd (getI p1.1 p1.2.1) fun x2 =>
  bnd (getI p1.1 p1.2.1) fun x3 =>
  bnd (getI (List.set p1.1 (Int.toNat p1.2.1) x1) p1.2.2) fun x4 =>
  some (.inl (List.set (List.set p1.1 (Int.toNat p1.2.1) x1) (Int.toNat p1.2.2) x2, w64 (p1.2.1 + 1), w64 (p1.2.2 - 1))))
  (some (.inr (p1.1)))
def g_slices_Reverse_Sbyte_byte (N : Nat) (v0 : List (UInt8)) : Option ((List (UInt8))) :=
 loopN (g_slices_Reverse_Sbyte_byte_L1 N) N (v0, 0, w64 ((v0.length : Int) - 1))
def i_Backwards (N : Nat) (v0 : List UInt8) : Option ((List UInt8)) :=
 sel (decide ((v0.length : Int) > 100))
  (some ([] : List UInt8))
  (chk ((v0).length ≤ 274877906944) <|
  bnd (g_slices_Reverse_Sbyte_byte N v0) fun x1 =>
  some x1)
def i_TurnGrid (N : Nat) (v0 : Gx.Grid) : Option (Gx.Grid) :=
 bnd (i_IsGrid N v0) fun x1 =>
 sel (!x1)
  (some (⟨0, 0, ([] : List UInt8)⟩ : Gx.Grid))
  (bnd (i_Backwards N v0.mCells) fun x2 =>
  some (⟨v0.mRows, v0.mCols, x2⟩ : Gx.Grid))
def i_IsSymmetric (N : Nat) (v0 : Gx.Grid) : Option (Bool) :=
 bnd (i_IsGrid N v0) fun x1 =>
 sel (x1)
  (bnd (i_TurnGrid N v0) fun x2 =>
  some (v0.mRows == x2.mRows && (v0.mCols == x2.mCols && (v0.mCells == x2.mCells && true))))
  (some false)
def i_at (N : Nat) (v0 : Int) (v1 : Int) : Option (Bool) :=
 sel (decide (v0 ≥ 0))
  (some (decide (v0 < v1)))
  (some false)
def i_PartsOf_1_B (N : Nat) (r_i_PartsOf_1 : Int → Int → Gx.Grid → (List (Bool)) → Option ((List (Bool)))) (v0 : Int) (v1 : Int) (c0 : Gx.Grid) (c1 : List (Bool)) : Option ((List (Bool))) :=
 bnd (i_at N v0 c0.mRows) fun x1 =>
 sel (!x1)
  (some c1)
  (bnd (i_at N v1 c0.mCols) fun x2 =>
  sel (!x2)
   (some c1)
   (bnd (getI c1 (w64 ((w64 (v0 * c0.mCols)) + v1))) fun x3 =>
   sel (x3)
    (some c1)
    (chk (0 ≤ (w64 ((w64 (v0 * c0.mCols)) + v1)) ∧ (w64 ((w64 (v0 * c0.mCols)) + v1)) < (c0.mCells.length : Int)) <|
    sel ((byteI c0.mCells (w64 ((w64 (v0 * c0.mCols)) + v1))) != 46)
     (some c1)
     (bnd (getI c1 (w64 ((w64 (v0 * c0.mCols)) + v1))) fun x4 =>
     bnd (r_i_PartsOf_1 (w64 (v0 - 1)) v1 c0 (List.set c1 (Int.toNat (w64 ((w64 (v0 * c0.mCols)) + v1))) true)) fun x5 =>
     bnd (r_i_PartsOf_1 (w64 (v0 + 1)) v1 c0 x5) fun x6 =>
     bnd (r_i_PartsOf_1 v0 (w64 (v1 - 1)) c0 x6) fun x7 =>
     bnd (r_i_PartsOf_1 v0 (w64 (v1 + 1)) c0 x7) fun x8 =>
     some x8))))
def i_PartsOf_1_R (N : Nat) : Nat → Int → Int → Gx.Grid → (List (Bool)) → Option ((List (Bool)))
 | 0, _, _, _, _ => none
 | n + 1, a0, a1, a2, a3 => i_PartsOf_1_B N (i_PartsOf_1_R N n) a0 a1 a2 a3
def i_PartsOf_1 (N : Nat) (v0 : Int) (v1 : Int) (v2 : Gx.Grid) (v3 : List (Bool)) : Option ((List (Bool))) := i_PartsOf_1_R N N v0 v1 v2 v3
def i_PartsOf_L1 (N : Nat) (v0 : Gx.Grid) (p1 : (List (Bool)) × Int × Int) : Option (Sum ((List (Bool)) × Int × Int) (Int)) :=
 sel (decide (p1.2.2 < (v0.mCells.length : Int)))
  (bnd (α := Bool) (
   chk (0 ≤ p1.2.2 ∧ p1.2.2 < (v0.mCells.length : Int)) <|
   sel ((byteI v0.mCells p1.2.2) == 46)
    (bnd (getI p1.1 p1.2.2) fun x2 =>
    some !x2)
    (some false)) fun t3 =>
  sel (t3)
   (chk ((v0.mCols : Int) ≠ 0) <|
   chk ((v0.mCols : Int) ≠ 0) <|
   bnd (i_PartsOf_1 N (w64 (Int.tdiv p1.2.2 v0.mCols)) (Int.tmod p1.2.2 v0.mCols) v0 p1.1) fun x4 =>
   some (.inl (x4, w64 (p1.2.1 + 1), w64 (p1.2.2 + 1))))
   (some (.inl (p1.1, p1.2.1, w64 (p1.2.2 + 1)))))
  (some (.inr (p1.2.1)))
def i_PartsOf (N : Nat) (v0 : Gx.Grid) : Option (Int) :=
 bnd (i_IsGrid N v0) fun x1 =>
 sel (!x1)
  (some 0)
  (chk (0 ≤ (v0.mCells.length : Int) ∧ (v0.mCells.length : Int) ≤ 274877906944) <|
  bnd (α := Int) (
   loopN (i_PartsOf_L1 N v0) N (List.replicate (Int.toNat (v0.mCells.length : Int)) false, 0, 0)) fun t5 =>
  some t5)
def i_IsConnected (N : Nat) (v0 : Gx.Grid) : Option (Bool) :=
 bnd (i_PartsOf N v0) fun x1 =>
 some (x1 == 1)
def i_run_L1 (N : Nat) (t1 : Int × Int × Int) (v1 : Int) (v0 : Gx.Grid) (p1 : Int) : Option (Sum (Int) (Int)) :=
 sel (decide ((w64 (t1.2.1 + p1)) < t1.2.2))
  (chk (0 ≤ (w64 (v1 + (w64 (p1 * t1.1)))) ∧ (w64 (v1 + (w64 (p1 * t1.1)))) < (v0.mCells.length : Int)) <|
  sel ((byteI v0.mCells (w64 (v1 + (w64 (p1 * t1.1))))) == 46)
   (some (.inl (w64 (p1 + 1))))
   (some (.inr (p1))))
  (some (.inr (p1)))
def i_run (N : Nat) (v0 : Gx.Grid) (v1 : Int) (v2 : Bool) : Option (Int) :=
 chk ((v0.mCols : Int) ≠ 0) <|
 bnd (α := Int × Int × Int) (
  sel (v2)
   (chk ((v0.mCols : Int) ≠ 0) <|
   some (v0.mCols, w64 (Int.tdiv v1 v0.mCols), v0.mRows))
   (some (1, Int.tmod v1 v0.mCols, v0.mCols))) fun t1 =>
 cutb (α := Unit) (
  chk (0 ≤ v1 ∧ v1 < (v0.mCells.length : Int)) <|
  sel ((byteI v0.mCells v1) != 46)
   (some (.rt (0)))
   (sel (decide (t1.2.1 > 0))
    (chk (0 ≤ (w64 (v1 - t1.1)) ∧ (w64 (v1 - t1.1)) < (v0.mCells.length : Int)) <|
    sel ((byteI v0.mCells (w64 (v1 - t1.1))) == 46)
     (some (.rt (0)))
     (some (.nx ())))
    (some (.nx ())))) fun t2 =>
 bnd (α := Int) (
  loopN (i_run_L1 N t1 v1 v0) N 0) fun t3 =>
 some t3
def i_SlotsOf_L1 (N : Nat) (v0 : Gx.Grid) (p1 : (List (Gx.Slot)) × Int × Int) : Option (Sum ((List (Gx.Slot)) × Int × Int) ((List (Gx.Slot)))) :=
 sel (decide (p1.2.2 < (v0.mCells.length : Int)))
  (bnd (i_run N v0 p1.2.2 false) fun x2 =>
  bnd (i_run N v0 p1.2.2 true) fun x3 =>
  bnd (α := Int) (
   sel (decide (x2 ≥ 2))
    (some (w64 (p1.2.1 + 1)))
    (sel (decide (x3 ≥ 2))
     (some (w64 (p1.2.1 + 1)))
     (some p1.2.1))) fun t4 =>
  bnd (α := (List (Gx.Slot))) (
   sel (decide (x2 ≥ 2))
    (chk (p1.1.length + ([(⟨t4, false, p1.2.2, x2⟩ : Gx.Slot)]).length ≤ 274877906944) <|
    some (p1.1 ++ ([(⟨t4, false, p1.2.2, x2⟩ : Gx.Slot)])))
    (some p1.1)) fun t5 =>
  sel (decide (x3 ≥ 2))
   (chk (t5.length + ([(⟨t4, true, p1.2.2, x3⟩ : Gx.Slot)]).length ≤ 274877906944) <|
   some (.inl (t5 ++ ([(⟨t4, true, p1.2.2, x3⟩ : Gx.Slot)]), t4, w64 (p1.2.2 + 1))))
   (some (.inl (t5, t4, w64 (p1.2.2 + 1)))))
  (some (.inr (p1.1)))
def i_SlotsOf (N : Nat) (v0 : Gx.Grid) : Option ((List (Gx.Slot))) :=
 bnd (i_IsGrid N v0) fun x1 =>
 sel (!x1)
  (some ([]))
  (bnd (α := (List (Gx.Slot))) (
   loopN (i_SlotsOf_L1 N v0) N ([], 0, 0)) fun t6 =>
  some t6)
def i_cells_L1 (N : Nat) (v1 : Gx.Slot) (t1 : Int) (p1 : (List (Int)) × Int) : Option (Sum ((List (Int)) × Int) ((List (Int)))) :=
 sel (decide (p1.2 < v1.mLength))
  (chk (p1.1.length + ([w64 (v1.mCell + (w64 (p1.2 * t1)))]).length ≤ 274877906944) <|
  some (.inl (p1.1 ++ ([w64 (v1.mCell + (w64 (p1.2 * t1)))]), w64 (p1.2 + 1))))
  (some (.inr (p1.1)))
def i_cells (N : Nat) (v0 : Gx.Grid) (v1 : Gx.Slot) : Option ((List (Int))) :=
 bnd (α := Int) (
  sel (v1.mDown)
   (some v0.mCols)
   (some 1)) fun t1 =>
 bnd (α := (List (Int))) (
  loopN (i_cells_L1 N v1 t1) N ([], 0)) fun t2 =>
 some t2
def i_layout_L1 (N : Nat) (x1 : (List (Gx.Slot))) (v0 : Gx.Grid) (p1 : (List (List (Int))) × Int) : Option (Sum ((List (List (Int))) × Int) ((List (List (Int))))) :=
 sel (decide (p1.2 < (x1.length : Int)))
  (bnd (getI x1 p1.2) fun x2 =>
  bnd (i_cells N v0 x2) fun x3 =>
  chk (p1.1.length + ([x3]).length ≤ 274877906944) <|
  some (.inl (p1.1 ++ ([x3]), w64 (p1.2 + 1))))
  (some (.inr (p1.1)))
def i_layout (N : Nat) (v0 : Gx.Grid) : Option ((List (List (Int)))) :=
 bnd (α := (List (List (Int)))) (
  bnd (i_SlotsOf N v0) fun x1 =>
  loopN (i_layout_L1 N x1 v0) N ([], 0)) fun t4 =>
 some t4
def g_slices_Index_Sint_int_L1 (N : Nat) (v0 : List (Int)) (v1 : Int) (p1 : Int) : Option (Sum (Int) (Cut (Unit) (Int))) :=
 sel (decide (p1 < (v0.length : Int)))
  (bnd (getI v0 p1) fun x1 =>
  sel (v1 == x1)
   (some (.inr (.rt (p1))))
   (some (.inl (w64 (p1 + 1)))))
  (some (.inr (.nx ())))
def g_slices_Index_Sint_int (N : Nat) (v0 : List (Int)) (v1 : Int) : Option (Int) :=
 cutb (α := Unit) (
  loopN (g_slices_Index_Sint_int_L1 N v0 v1) N 0) fun t2 =>
 some (-1)
def g_slices_Contains_Sint_int (N : Nat) (v0 : List (Int)) (v1 : Int) : Option (Bool) :=
 bnd (g_slices_Index_Sint_int N v0 v1) fun x1 =>
 some (decide (x1 ≥ 0))
def i_SlotsAt_L1 (N : Nat) (x1 : (List (List (Int)))) (v1 : Int) (p1 : (List (Int)) × Int) : Option (Sum ((List (Int)) × Int) ((List (Int)))) :=
 sel (decide (p1.2 < (x1.length : Int)))
  (bnd (getI x1 p1.2) fun x2 =>
  bnd (g_slices_Contains_Sint_int N x2 v1) fun x3 =>
  sel (x3)
   (chk (p1.1.length + ([p1.2]).length ≤ 274877906944) <|
   some (.inl (p1.1 ++ ([p1.2]), w64 (p1.2 + 1))))
   (some (.inl (p1.1, w64 (p1.2 + 1)))))
  (some (.inr (p1.1)))
def i_SlotsAt (N : Nat) (v0 : Gx.Grid) (v1 : Int) : Option ((List (Int))) :=
 bnd (α := (List (Int))) (
  bnd (i_layout N v0) fun x1 =>
  loopN (i_SlotsAt_L1 N x1 v1) N ([], 0)) fun t4 =>
 some t4
def i_IsChecked (N : Nat) (v0 : Gx.Grid) (v1 : Int) : Option (Bool) :=
 bnd (i_SlotsAt N v0 v1) fun x1 =>
 some ((x1.length : Int) == 2)
def i_UncheckedIn_L1 (N : Nat) (x3 : List (Int)) (v0 : Gx.Grid) (p1 : Int × Int) : Option (Sum (Int × Int) (Int)) :=
 sel (decide (p1.2 < (x3.length : Int)))
  (bnd (getI x3 p1.2) fun x4 =>
  bnd (i_IsChecked N v0 x4) fun x5 =>
  sel (!x5)
   (some (.inl (w64 (p1.1 + 1), w64 (p1.2 + 1))))
   (some (.inl (p1.1, w64 (p1.2 + 1)))))
  (some (.inr (p1.1)))
def i_UncheckedIn (N : Nat) (v0 : Gx.Grid) (v1 : Int) : Option (Int) :=
 bnd (i_layout N v0) fun x1 =>
 bnd (i_at N v1 (x1.length : Int)) fun x2 =>
 sel (!x2)
  (some (-1))
  (bnd (α := Int) (
   bnd (getI x1 v1) fun x3 =>
   loopN (i_UncheckedIn_L1 N x3 v0) N (0, 0)) fun t6 =>
  some t6)
def i_isLetter (N : Nat) (v0 : Int) : Option (Bool) :=
 sel (decide (v0 ≥ 97))
  (some (decide (v0 ≤ 122)))
  (some false)
def i_alone_L2 (N : Nat) (x2 : List (Int)) (p2 : (List (Int × Int)) × Int) : Option (Sum ((List (Int × Int)) × Int) ((List (Int × Int)))) :=
 sel (decide (p2.2 < (x2.length : Int)))
  (bnd (getI x2 p2.2) fun x3 =>
  some (.inl (mput x3 1 p2.1, w64 (p2.2 + 1))))
  (some (.inr (p2.1)))
def i_alone_L1 (N : Nat) (x1 : (List (List (Int)))) (p1 : (List (Int × Int)) × Int) : Option (Sum ((List (Int × Int)) × Int) ((List (Int × Int)))) :=
 sel (decide (p1.2 < (x1.length : Int)))
  (bnd (α := (List (Int × Int))) (
   bnd (getI x1 p1.2) fun x2 =>
   loopN (i_alone_L2 N x2) N (p1.1, 0)) fun t4 =>
  some (.inl (t4, w64 (p1.2 + 1))))
  (some (.inr (p1.1)))
def i_alone_L3 (N : Nat) (v0 : Gx.Grid) (t5 : (List (Int × Int))) (v1 : List UInt8) (p3 : Int) : Option (Sum (Int) (Cut (Unit) (Bool))) :=
 sel (decide (p3 < (v0.mCells.length : Int)))
  (chk (0 ≤ p3 ∧ p3 < (v0.mCells.length : Int)) <|
  sel ((byteI v0.mCells p3) == 46)
   (sel ((mget p3 t5) == 0)
    (chk (0 ≤ p3 ∧ p3 < (v1.length : Int)) <|
    bnd (i_isLetter N (byteI v1 p3)) fun x6 =>
    sel (!x6)
     (some (.inr (.rt (true))))
     (some (.inl (w64 (p3 + 1)))))
    (some (.inl (w64 (p3 + 1)))))
   (some (.inl (w64 (p3 + 1)))))
  (some (.inr (.nx ())))
def i_alone (N : Nat) (v0 : Gx.Grid) (v1 : List UInt8) : Option (Bool) :=
 bnd (α := (List (Int × Int))) (
  bnd (i_layout N v0) fun x1 =>
  loopN (i_alone_L1 N x1) N (([] : List (Int × Int)), 0)) fun t5 =>
 cutb (α := Unit) (
  loopN (i_alone_L3 N v0 t5 v1) N 0) fun t7 =>
 some false
def i_FormOf_L1 (N : Nat) (x4 : (List (Gx.Slot))) (p1 : Int) : Option (Sum (Int) (Cut (Unit) (Int))) :=
 sel (decide (p1 < (x4.length : Int)))
  (bnd (getI x4 p1) fun x5 =>
  sel (decide (x5.mLength < 3))
   (some (.inr (.rt (4))))
   (some (.inl (w64 (p1 + 1)))))
  (some (.inr (.nx ())))
def i_FormOf_L2 (N : Nat) (x4 : (List (Gx.Slot))) (v0 : Gx.Grid) (p2 : Int) : Option (Sum (Int) (Cut (Unit) (Int))) :=
 sel (decide (p2 < (x4.length : Int)))
  (bnd (getI x4 p2) fun x7 =>
  bnd (i_UncheckedIn N v0 p2) fun x8 =>
  sel (decide ((w64 (2 * x8)) > x7.mLength))
   (some (.inr (.rt (5))))
   (some (.inl (w64 (p2 + 1)))))
  (some (.inr (.nx ())))
def i_FormOf (N : Nat) (v0 : Gx.Grid) : Option (Int) :=
 bnd (i_IsGrid N v0) fun x1 =>
 sel (!x1)
  (some 1)
  (bnd (i_IsSymmetric N v0) fun x2 =>
  sel (!x2)
   (some 2)
   (bnd (i_IsConnected N v0) fun x3 =>
   sel (!x3)
    (some 3)
    (bnd (i_SlotsOf N v0) fun x4 =>
    cutb (α := Unit) (
     loopN (i_FormOf_L1 N x4) N 0) fun t6 =>
    cutb (α := Unit) (
     loopN (i_FormOf_L2 N x4 v0) N 0) fun t9 =>
    bnd (i_alone N v0 v0.mCells) fun x10 =>
    sel (x10)
     (some 5)
     (some 0))))
def i_EmptyFill (N : Nat) (v0 : Gx.Grid) : Option ((List UInt8)) :=
 bnd (i_IsGrid N v0) fun x1 =>
 sel (!x1)
  (some ([] : List UInt8))
  (bnd (g_strings_ReplaceAll N v0.mCells ([46] : List UInt8) ([63] : List UInt8)) fun x2 =>
  some x2)
def i_NewDraft (N : Nat) (v0 : Gx.Grid) : Option (Gx.Draft × Bool) :=
 bnd (i_FormOf N v0) fun x1 =>
 sel (x1 != 0)
  (some ((⟨(⟨0, 0, ([] : List UInt8)⟩ : Gx.Grid), ([] : List UInt8), [], 0⟩ : Gx.Draft), false))
  (bnd (i_EmptyFill N v0) fun x2 =>
  bnd (i_SlotsOf N v0) fun x3 =>
  chk (0 ≤ (x3.length : Int) ∧ (x3.length : Int) ≤ 274877906944) <|
  some ((⟨(⟨v0.mRows, v0.mCols, v0.mCells⟩ : Gx.Grid), x2, List.replicate (Int.toNat (x3.length : Int)) (⟨0, []⟩ : Gx.Clue), 1⟩ : Gx.Draft), true))
def i_StepDesk (N : Nat) (v0 : Gx.House) (v1 : Gx.Grid) : Option (Gx.House × Bool) :=
 bnd (i_copyHouse N v0) fun x1 =>
 bnd (i_NewDraft N v1) fun x2 =>
 bnd (α := Int × Int × (List UInt8) × (List UInt8) × (List (Gx.Clue)) × Int) (
  sel (x2.2)
   (some (x2.1.mGrid.mRows, x2.1.mGrid.mCols, x2.1.mGrid.mCells, x2.1.mFill, x2.1.mClues, x2.1.mVersion))
   (some (x1.mDesk.mGrid.mRows, x1.mDesk.mGrid.mCols, x1.mDesk.mGrid.mCells, x1.mDesk.mFill, x1.mDesk.mClues, x1.mDesk.mVersion))) fun t3 =>
 some ((⟨x1.mList, x1.mDict, (⟨(⟨t3.1, t3.2.1, t3.2.2.1⟩ : Gx.Grid), t3.2.2.2.1, t3.2.2.2.2.1, t3.2.2.2.2.2⟩ : Gx.Draft), x1.mIssues, x1.mUses, x1.mCorrections, x1.mEntries, x1.mNow⟩ : Gx.House), x2.2)
def l_eqListed (N : Nat) (v0 : Gx.Listed) (v1 : Gx.Listed) : Option (Bool) :=
 sel (v0.mWord != v1.mWord)
  (some false)
  (sel (v0.mFrom != v1.mFrom)
   (some false)
   (sel (v0.mUntil != v1.mUntil)
    (some false)
    (sel (v0.mScore != v1.mScore)
     (some false)
     (some true))))
def l_eqListedS_L1 (N : Nat) (v0 : List (Gx.Listed)) (v1 : List (Gx.Listed)) (p1 : Int) : Option (Sum (Int) (Cut (Unit) (Bool))) :=
 sel (decide (p1 < (v0.length : Int)))
  (bnd (getI v0 p1) fun x1 =>
  bnd (getI v1 p1) fun x2 =>
  bnd (l_eqListed N x1 x2) fun x3 =>
  sel (!x3)
   (some (.inr (.rt (false))))
   (some (.inl (w64 (p1 + 1)))))
  (some (.inr (.nx ())))
def l_eqListedS (N : Nat) (v0 : List (Gx.Listed)) (v1 : List (Gx.Listed)) : Option (Bool) :=
 sel ((v0.length : Int) != (v1.length : Int))
  (some false)
  (cutb (α := Unit) (
   loopN (l_eqListedS_L1 N v0 v1) N 0) fun t4 =>
  some true)
def l_eqMeaning (N : Nat) (v0 : Gx.Meaning) (v1 : Gx.Meaning) : Option (Bool) :=
 sel (v0.mWord != v1.mWord)
  (some false)
  (sel (v0.mSense != v1.mSense)
   (some false)
   (some true))
def l_eqMeaningS_L1 (N : Nat) (v0 : List (Gx.Meaning)) (v1 : List (Gx.Meaning)) (p1 : Int) : Option (Sum (Int) (Cut (Unit) (Bool))) :=
 sel (decide (p1 < (v0.length : Int)))
  (bnd (getI v0 p1) fun x1 =>
  bnd (getI v1 p1) fun x2 =>
  bnd (l_eqMeaning N x1 x2) fun x3 =>
  sel (!x3)
   (some (.inr (.rt (false))))
   (some (.inl (w64 (p1 + 1)))))
  (some (.inr (.nx ())))
def l_eqMeaningS (N : Nat) (v0 : List (Gx.Meaning)) (v1 : List (Gx.Meaning)) : Option (Bool) :=
 sel ((v0.length : Int) != (v1.length : Int))
  (some false)
  (cutb (α := Unit) (
   loopN (l_eqMeaningS_L1 N v0 v1) N 0) fun t4 =>
  some true)
def l_eqGrid (N : Nat) (v0 : Gx.Grid) (v1 : Gx.Grid) : Option (Bool) :=
 sel (v0.mRows != v1.mRows)
  (some false)
  (sel (v0.mCols != v1.mCols)
   (some false)
   (sel (v0.mCells != v1.mCells)
    (some false)
    (some true)))
def l_eqStep (N : Nat) (v0 : Gx.Step) (v1 : Gx.Step) : Option (Bool) :=
 sel (v0.mKind != v1.mKind)
  (some false)
  (sel (v0.mWord != v1.mWord)
   (some false)
   (sel (v0.mA != v1.mA)
    (some false)
    (sel (v0.mB != v1.mB)
     (some false)
     (some true))))
def l_eqStepS_L1 (N : Nat) (v0 : List (Gx.Step)) (v1 : List (Gx.Step)) (p1 : Int) : Option (Sum (Int) (Cut (Unit) (Bool))) :=
 sel (decide (p1 < (v0.length : Int)))
  (bnd (getI v0 p1) fun x1 =>
  bnd (getI v1 p1) fun x2 =>
  bnd (l_eqStep N x1 x2) fun x3 =>
  sel (!x3)
   (some (.inr (.rt (false))))
   (some (.inl (w64 (p1 + 1)))))
  (some (.inr (.nx ())))
def l_eqStepS (N : Nat) (v0 : List (Gx.Step)) (v1 : List (Gx.Step)) : Option (Bool) :=
 sel ((v0.length : Int) != (v1.length : Int))
  (some false)
  (cutb (α := Unit) (
   loopN (l_eqStepS_L1 N v0 v1) N 0) fun t4 =>
  some true)
def l_eqClue (N : Nat) (v0 : Gx.Clue) (v1 : Gx.Clue) : Option (Bool) :=
 sel (v0.mSense != v1.mSense)
  (some false)
  (bnd (l_eqStepS N v0.mPlay v1.mPlay) fun x1 =>
  sel (!x1)
   (some false)
   (some true))
def l_eqClueS_L1 (N : Nat) (v0 : List (Gx.Clue)) (v1 : List (Gx.Clue)) (p1 : Int) : Option (Sum (Int) (Cut (Unit) (Bool))) :=
 sel (decide (p1 < (v0.length : Int)))
  (bnd (getI v0 p1) fun x1 =>
  bnd (getI v1 p1) fun x2 =>
  bnd (l_eqClue N x1 x2) fun x3 =>
  sel (!x3)
   (some (.inr (.rt (false))))
   (some (.inl (w64 (p1 + 1)))))
  (some (.inr (.nx ())))
def l_eqClueS (N : Nat) (v0 : List (Gx.Clue)) (v1 : List (Gx.Clue)) : Option (Bool) :=
 sel ((v0.length : Int) != (v1.length : Int))
  (some false)
  (cutb (α := Unit) (
   loopN (l_eqClueS_L1 N v0 v1) N 0) fun t4 =>
  some true)
def l_eqDraft (N : Nat) (v0 : Gx.Draft) (v1 : Gx.Draft) : Option (Bool) :=
 bnd (l_eqGrid N v0.mGrid v1.mGrid) fun x1 =>
 sel (!x1)
  (some false)
  (sel (v0.mFill != v1.mFill)
   (some false)
   (bnd (l_eqClueS N v0.mClues v1.mClues) fun x2 =>
   sel (!x2)
    (some false)
    (sel (v0.mVersion != v1.mVersion)
     (some false)
     (some true))))
def l_eqIntS_L1 (N : Nat) (v0 : List (Int)) (v1 : List (Int)) (p1 : Int) : Option (Sum (Int) (Cut (Unit) (Bool))) :=
 sel (decide (p1 < (v0.length : Int)))
  (bnd (getI v0 p1) fun x1 =>
  bnd (getI v1 p1) fun x2 =>
  sel (x1 != x2)
   (some (.inr (.rt (false))))
   (some (.inl (w64 (p1 + 1)))))
  (some (.inr (.nx ())))
def l_eqIntS (N : Nat) (v0 : List (Int)) (v1 : List (Int)) : Option (Bool) :=
 sel ((v0.length : Int) != (v1.length : Int))
  (some false)
  (cutb (α := Unit) (
   loopN (l_eqIntS_L1 N v0 v1) N 0) fun t3 =>
  some true)
def l_eqPuzzle (N : Nat) (v0 : Gx.Puzzle) (v1 : Gx.Puzzle) : Option (Bool) :=
 bnd (l_eqGrid N v0.mGrid v1.mGrid) fun x1 =>
 sel (!x1)
  (some false)
  (bnd (l_eqClueS N v0.mClues v1.mClues) fun x2 =>
  sel (!x2)
   (some false)
   (bnd (l_eqIntS N v0.mSeals v1.mSeals) fun x3 =>
   sel (!x3)
    (some false)
    (sel (v0.mSalt != v1.mSalt)
     (some false)
     (some true))))
def l_eqIssue (N : Nat) (v0 : Gx.Issue) (v1 : Gx.Issue) : Option (Bool) :=
 sel (v0.mNumber != v1.mNumber)
  (some false)
  (bnd (l_eqPuzzle N v0.mPuzzle v1.mPuzzle) fun x1 =>
  sel (!x1)
   (some false)
   (sel (v0.mFill != v1.mFill)
    (some false)
    (sel (v0.mOpen != v1.mOpen)
     (some false)
     (sel (v0.mClose != v1.mClose)
      (some false)
      (some true)))))
def l_eqIssueS_L1 (N : Nat) (v0 : List (Gx.Issue)) (v1 : List (Gx.Issue)) (p1 : Int) : Option (Sum (Int) (Cut (Unit) (Bool))) :=
 sel (decide (p1 < (v0.length : Int)))
  (bnd (getI v0 p1) fun x1 =>
  bnd (getI v1 p1) fun x2 =>
  bnd (l_eqIssue N x1 x2) fun x3 =>
  sel (!x3)
   (some (.inr (.rt (false))))
   (some (.inl (w64 (p1 + 1)))))
  (some (.inr (.nx ())))
def l_eqIssueS (N : Nat) (v0 : List (Gx.Issue)) (v1 : List (Gx.Issue)) : Option (Bool) :=
 sel ((v0.length : Int) != (v1.length : Int))
  (some false)
  (cutb (α := Unit) (
   loopN (l_eqIssueS_L1 N v0 v1) N 0) fun t4 =>
  some true)
def l_eqUsed (N : Nat) (v0 : Gx.Used) (v1 : Gx.Used) : Option (Bool) :=
 sel (v0.mWord != v1.mWord)
  (some false)
  (sel (v0.mIssue != v1.mIssue)
   (some false)
   (some true))
def l_eqUsedS_L1 (N : Nat) (v0 : List (Gx.Used)) (v1 : List (Gx.Used)) (p1 : Int) : Option (Sum (Int) (Cut (Unit) (Bool))) :=
 sel (decide (p1 < (v0.length : Int)))
  (bnd (getI v0 p1) fun x1 =>
  bnd (getI v1 p1) fun x2 =>
  bnd (l_eqUsed N x1 x2) fun x3 =>
  sel (!x3)
   (some (.inr (.rt (false))))
   (some (.inl (w64 (p1 + 1)))))
  (some (.inr (.nx ())))
def l_eqUsedS (N : Nat) (v0 : List (Gx.Used)) (v1 : List (Gx.Used)) : Option (Bool) :=
 sel ((v0.length : Int) != (v1.length : Int))
  (some false)
  (cutb (α := Unit) (
   loopN (l_eqUsedS_L1 N v0 v1) N 0) fun t4 =>
  some true)
def l_eqCorrection (N : Nat) (v0 : Gx.Correction) (v1 : Gx.Correction) : Option (Bool) :=
 sel (v0.mIssue != v1.mIssue)
  (some false)
  (sel (v0.mSlot != v1.mSlot)
   (some false)
   (bnd (l_eqClue N v0.mClue v1.mClue) fun x1 =>
   sel (!x1)
    (some false)
    (sel (v0.mTick != v1.mTick)
     (some false)
     (some true))))
def l_eqCorrectionS_L1 (N : Nat) (v0 : List (Gx.Correction)) (v1 : List (Gx.Correction)) (p1 : Int) : Option (Sum (Int) (Cut (Unit) (Bool))) :=
 sel (decide (p1 < (v0.length : Int)))
  (bnd (getI v0 p1) fun x1 =>
  bnd (getI v1 p1) fun x2 =>
  bnd (l_eqCorrection N x1 x2) fun x3 =>
  sel (!x3)
   (some (.inr (.rt (false))))
   (some (.inl (w64 (p1 + 1)))))
  (some (.inr (.nx ())))
def l_eqCorrectionS (N : Nat) (v0 : List (Gx.Correction)) (v1 : List (Gx.Correction)) : Option (Bool) :=
 sel ((v0.length : Int) != (v1.length : Int))
  (some false)
  (cutb (α := Unit) (
   loopN (l_eqCorrectionS_L1 N v0 v1) N 0) fun t4 =>
  some true)
def l_eqEntry (N : Nat) (v0 : Gx.Entry) (v1 : Gx.Entry) : Option (Bool) :=
 sel (v0.mPlayer != v1.mPlayer)
  (some false)
  (sel (v0.mIssue != v1.mIssue)
   (some false)
   (sel (v0.mTick != v1.mTick)
    (some false)
    (sel (v0.mFill != v1.mFill)
     (some false)
     (some true))))
def l_eqEntryS_L1 (N : Nat) (v0 : List (Gx.Entry)) (v1 : List (Gx.Entry)) (p1 : Int) : Option (Sum (Int) (Cut (Unit) (Bool))) :=
 sel (decide (p1 < (v0.length : Int)))
  (bnd (getI v0 p1) fun x1 =>
  bnd (getI v1 p1) fun x2 =>
  bnd (l_eqEntry N x1 x2) fun x3 =>
  sel (!x3)
   (some (.inr (.rt (false))))
   (some (.inl (w64 (p1 + 1)))))
  (some (.inr (.nx ())))
def l_eqEntryS (N : Nat) (v0 : List (Gx.Entry)) (v1 : List (Gx.Entry)) : Option (Bool) :=
 sel ((v0.length : Int) != (v1.length : Int))
  (some false)
  (cutb (α := Unit) (
   loopN (l_eqEntryS_L1 N v0 v1) N 0) fun t4 =>
  some true)
def l_eqHouse (N : Nat) (v0 : Gx.House) (v1 : Gx.House) : Option (Bool) :=
 bnd (l_eqListedS N v0.mList v1.mList) fun x1 =>
 sel (!x1)
  (some false)
  (bnd (l_eqMeaningS N v0.mDict v1.mDict) fun x2 =>
  sel (!x2)
   (some false)
   (bnd (l_eqDraft N v0.mDesk v1.mDesk) fun x3 =>
   sel (!x3)
    (some false)
    (bnd (l_eqIssueS N v0.mIssues v1.mIssues) fun x4 =>
    sel (!x4)
     (some false)
     (bnd (l_eqUsedS N v0.mUses v1.mUses) fun x5 =>
     sel (!x5)
      (some false)
      (bnd (l_eqCorrectionS N v0.mCorrections v1.mCorrections) fun x6 =>
      sel (!x6)
       (some false)
       (bnd (l_eqEntryS N v0.mEntries v1.mEntries) fun x7 =>
       sel (!x7)
        (some false)
        (sel (v0.mNow != v1.mNow)
         (some false)
         (some true))))))))
def l_markText_L1 (N : Nat) (p1 : Int × (List UInt8)) : Option (Sum (Int × (List UInt8)) ((List UInt8))) :=
 sel (decide (p1.1 > 0))
  (chk ((10 : Int) ≠ 0) <|
  chk (([UInt8.ofInt (IntKind.u8.wrap (w64 (48 + (Int.tmod p1.1 10))))]).length + p1.2.length ≤ 274877906944) <|
  chk ((10 : Int) ≠ 0) <|
  some (.inl (w64 (Int.tdiv p1.1 10), ([UInt8.ofInt (IntKind.u8.wrap (w64 (48 + (Int.tmod p1.1 10))))]) ++ p1.2)))
  (some (.inr (p1.2)))
def l_markText (N : Nat) (v0 : Int) : Option ((List UInt8)) :=
 sel (decide (v0 ≤ 0))
  (some ([109, 48] : List UInt8))
  (bnd (α := (List UInt8)) (
   loopN (l_markText_L1 N) N (v0, ([] : List UInt8))) fun t1 =>
  chk (([109] : List UInt8).length + t1.length ≤ 274877906944) <|
  some (([109] : List UInt8) ++ t1))
def l_markListedS_L1 (N : Nat) (p1 : (List (Gx.Listed)) × Int × Int) : Option (Sum ((List (Gx.Listed)) × Int × Int) ((List (Gx.Listed)) × Int)) :=
 sel (decide (p1.2.2 < (p1.1.length : Int)))
  (bnd (l_markText N p1.2.1) fun x1 =>
  bnd (getI p1.1 p1.2.2) fun x2 =>
  bnd (getI (List.set p1.1 (Int.toNat p1.2.2) (⟨x1, x2.mFrom, x2.mUntil, x2.mScore⟩ : Gx.Listed)) p1.2.2) fun x3 =>
  bnd (getI (List.set p1.1 (Int.toNat p1.2.2) (⟨x3.mWord, w64 (p1.2.1 + 1), x3.mUntil, x3.mScore⟩ : Gx.Listed)) p1.2.2) fun x4 =>
  bnd (getI (List.set p1.1 (Int.toNat p1.2.2) (⟨x4.mWord, x4.mFrom, w64 ((w64 (p1.2.1 + 1)) + 1), x4.mScore⟩ : Gx.Listed)) p1.2.2) fun x5 =>
  some (.inl (List.set p1.1 (Int.toNat p1.2.2) (⟨x5.mWord, x5.mFrom, x5.mUntil, w64 ((w64 ((w64 (p1.2.1 + 1)) + 1)) + 1)⟩ : Gx.Listed), w64 ((w64 ((w64 ((w64 (p1.2.1 + 1)) + 1)) + 1)) + 1), w64 (p1.2.2 + 1))))
  (some (.inr ((p1.1, p1.2.1))))
def l_markListedS (N : Nat) (v0 : List (Gx.Listed)) (v1 : Int) : Option ((List (Gx.Listed)) × Int) :=
 bnd (α := (List (Gx.Listed)) × Int) (
  loopN (l_markListedS_L1 N) N (v0, v1, 0)) fun t6 =>
 some (t6.1, t6.2)
def l_markMeaningS_L1 (N : Nat) (p1 : (List (Gx.Meaning)) × Int × Int) : Option (Sum ((List (Gx.Meaning)) × Int × Int) ((List (Gx.Meaning)) × Int)) :=
 sel (decide (p1.2.2 < (p1.1.length : Int)))
  (bnd (l_markText N p1.2.1) fun x1 =>
  bnd (getI p1.1 p1.2.2) fun x2 =>
  bnd (getI (List.set p1.1 (Int.toNat p1.2.2) (⟨x1, x2.mSense⟩ : Gx.Meaning)) p1.2.2) fun x3 =>
  some (.inl (List.set p1.1 (Int.toNat p1.2.2) (⟨x3.mWord, w64 (p1.2.1 + 1)⟩ : Gx.Meaning), w64 ((w64 (p1.2.1 + 1)) + 1), w64 (p1.2.2 + 1))))
  (some (.inr ((p1.1, p1.2.1))))
def l_markMeaningS (N : Nat) (v0 : List (Gx.Meaning)) (v1 : Int) : Option ((List (Gx.Meaning)) × Int) :=
 bnd (α := (List (Gx.Meaning)) × Int) (
  loopN (l_markMeaningS_L1 N) N (v0, v1, 0)) fun t4 =>
 some (t4.1, t4.2)
def l_markStepS_L1 (N : Nat) (p1 : (List (Gx.Step)) × Int × Int) : Option (Sum ((List (Gx.Step)) × Int × Int) ((List (Gx.Step)) × Int)) :=
 sel (decide (p1.2.2 < (p1.1.length : Int)))
  (bnd (getI p1.1 p1.2.2) fun x1 =>
  bnd (l_markText N (w64 (p1.2.1 + 1))) fun x2 =>
  bnd (getI (List.set p1.1 (Int.toNat p1.2.2) (⟨p1.2.1, x1.mWord, x1.mA, x1.mB⟩ : Gx.Step)) p1.2.2) fun x3 =>
  bnd (getI (List.set p1.1 (Int.toNat p1.2.2) (⟨x3.mKind, x2, x3.mA, x3.mB⟩ : Gx.Step)) p1.2.2) fun x4 =>
  bnd (getI (List.set p1.1 (Int.toNat p1.2.2) (⟨x4.mKind, x4.mWord, w64 ((w64 (p1.2.1 + 1)) + 1), x4.mB⟩ : Gx.Step)) p1.2.2) fun x5 =>
  some (.inl (List.set p1.1 (Int.toNat p1.2.2) (⟨x5.mKind, x5.mWord, x5.mA, w64 ((w64 ((w64 (p1.2.1 + 1)) + 1)) + 1)⟩ : Gx.Step), w64 ((w64 ((w64 ((w64 (p1.2.1 + 1)) + 1)) + 1)) + 1), w64 (p1.2.2 + 1))))
  (some (.inr ((p1.1, p1.2.1))))
def l_markStepS (N : Nat) (v0 : List (Gx.Step)) (v1 : Int) : Option ((List (Gx.Step)) × Int) :=
 bnd (α := (List (Gx.Step)) × Int) (
  loopN (l_markStepS_L1 N) N (v0, v1, 0)) fun t6 =>
 some (t6.1, t6.2)
def l_markClueS_L1 (N : Nat) (p1 : (List (Gx.Clue)) × Int × Int) : Option (Sum ((List (Gx.Clue)) × Int × Int) ((List (Gx.Clue)) × Int)) :=
 sel (decide (p1.2.2 < (p1.1.length : Int)))
  (bnd (getI p1.1 p1.2.2) fun x1 =>
  bnd (getI (List.set p1.1 (Int.toNat p1.2.2) (⟨p1.2.1, x1.mPlay⟩ : Gx.Clue)) p1.2.2) fun x2 =>
  bnd (l_markStepS N x2.mPlay (w64 (p1.2.1 + 1))) fun x3 =>
  some (.inl (List.set p1.1 (Int.toNat p1.2.2) (⟨x2.mSense, x3.1⟩ : Gx.Clue), x3.2, w64 (p1.2.2 + 1))))
  (some (.inr ((p1.1, p1.2.1))))
def l_markClueS (N : Nat) (v0 : List (Gx.Clue)) (v1 : Int) : Option ((List (Gx.Clue)) × Int) :=
 bnd (α := (List (Gx.Clue)) × Int) (
  loopN (l_markClueS_L1 N) N (v0, v1, 0)) fun t4 =>
 some (t4.1, t4.2)
def l_markDraft (N : Nat) (v0 : Gx.Draft) (v1 : Int) : Option ((List (Gx.Clue)) × Int) :=
 bnd (l_markClueS N v0.mClues v1) fun x1 =>
 some (x1.1, x1.2)
def l_markIntS_L1 (N : Nat) (p1 : (List (Int)) × Int × Int) : Option (Sum ((List (Int)) × Int × Int) ((List (Int)) × Int)) :=
 sel (decide (p1.2.2 < (p1.1.length : Int)))
  (bnd (getI p1.1 p1.2.2) fun x1 =>
  some (.inl (List.set p1.1 (Int.toNat p1.2.2) p1.2.1, w64 (p1.2.1 + 1), w64 (p1.2.2 + 1))))
  (some (.inr ((p1.1, p1.2.1))))
def l_markIntS (N : Nat) (v0 : List (Int)) (v1 : Int) : Option ((List (Int)) × Int) :=
 bnd (α := (List (Int)) × Int) (
  loopN (l_markIntS_L1 N) N (v0, v1, 0)) fun t2 =>
 some (t2.1, t2.2)
def l_markIssueS_L1 (N : Nat) (p1 : (List (Gx.Issue)) × Int × Int) : Option (Sum ((List (Gx.Issue)) × Int × Int) ((List (Gx.Issue)) × Int)) :=
 sel (decide (p1.2.2 < (p1.1.length : Int)))
  (bnd (getI p1.1 p1.2.2) fun x1 =>
  bnd (getI (List.set p1.1 (Int.toNat p1.2.2) (⟨p1.2.1, (⟨(⟨x1.mPuzzle.mGrid.mRows, x1.mPuzzle.mGrid.mCols, x1.mPuzzle.mGrid.mCells⟩ : Gx.Grid), x1.mPuzzle.mClues, x1.mPuzzle.mSeals, x1.mPuzzle.mSalt⟩ : Gx.Puzzle), x1.mFill, x1.mOpen, x1.mClose⟩ : Gx.Issue)) p1.2.2) fun x2 =>
  bnd (getI (List.set p1.1 (Int.toNat p1.2.2) (⟨x2.mNumber, (⟨(⟨w64 (p1.2.1 + 1), x2.mPuzzle.mGrid.mCols, x2.mPuzzle.mGrid.mCells⟩ : Gx.Grid), x2.mPuzzle.mClues, x2.mPuzzle.mSeals, x2.mPuzzle.mSalt⟩ : Gx.Puzzle), x2.mFill, x2.mOpen, x2.mClose⟩ : Gx.Issue)) p1.2.2) fun x3 =>
  bnd (l_markText N (w64 ((w64 ((w64 (p1.2.1 + 1)) + 1)) + 1))) fun x4 =>
  bnd (getI (List.set p1.1 (Int.toNat p1.2.2) (⟨x3.mNumber, (⟨(⟨x3.mPuzzle.mGrid.mRows, w64 ((w64 (p1.2.1 + 1)) + 1), x3.mPuzzle.mGrid.mCells⟩ : Gx.Grid), x3.mPuzzle.mClues, x3.mPuzzle.mSeals, x3.mPuzzle.mSalt⟩ : Gx.Puzzle), x3.mFill, x3.mOpen, x3.mClose⟩ : Gx.Issue)) p1.2.2) fun x5 =>
  bnd (getI (List.set p1.1 (Int.toNat p1.2.2) (⟨x5.mNumber, (⟨(⟨x5.mPuzzle.mGrid.mRows, x5.mPuzzle.mGrid.mCols, x4⟩ : Gx.Grid), x5.mPuzzle.mClues, x5.mPuzzle.mSeals, x5.mPuzzle.mSalt⟩ : Gx.Puzzle), x5.mFill, x5.mOpen, x5.mClose⟩ : Gx.Issue)) p1.2.2) fun x6 =>
  bnd (l_markClueS N x6.mPuzzle.mClues (w64 ((w64 ((w64 ((w64 (p1.2.1 + 1)) + 1)) + 1)) + 1))) fun x7 =>
  bnd (getI (List.set p1.1 (Int.toNat p1.2.2) (⟨x6.mNumber, (⟨(⟨x6.mPuzzle.mGrid.mRows, x6.mPuzzle.mGrid.mCols, x6.mPuzzle.mGrid.mCells⟩ : Gx.Grid), x7.1, x6.mPuzzle.mSeals, x6.mPuzzle.mSalt⟩ : Gx.Puzzle), x6.mFill, x6.mOpen, x6.mClose⟩ : Gx.Issue)) p1.2.2) fun x8 =>
  bnd (l_markIntS N x8.mPuzzle.mSeals x7.2) fun x9 =>
  bnd (getI (List.set p1.1 (Int.toNat p1.2.2) (⟨x8.mNumber, (⟨(⟨x8.mPuzzle.mGrid.mRows, x8.mPuzzle.mGrid.mCols, x8.mPuzzle.mGrid.mCells⟩ : Gx.Grid), x8.mPuzzle.mClues, x9.1, x8.mPuzzle.mSalt⟩ : Gx.Puzzle), x8.mFill, x8.mOpen, x8.mClose⟩ : Gx.Issue)) p1.2.2) fun x10 =>
  bnd (l_markText N (w64 (x9.2 + 1))) fun x11 =>
  bnd (getI (List.set p1.1 (Int.toNat p1.2.2) (⟨x10.mNumber, (⟨(⟨x10.mPuzzle.mGrid.mRows, x10.mPuzzle.mGrid.mCols, x10.mPuzzle.mGrid.mCells⟩ : Gx.Grid), x10.mPuzzle.mClues, x10.mPuzzle.mSeals, x9.2⟩ : Gx.Puzzle), x10.mFill, x10.mOpen, x10.mClose⟩ : Gx.Issue)) p1.2.2) fun x12 =>
  bnd (getI (List.set p1.1 (Int.toNat p1.2.2) (⟨x12.mNumber, (⟨(⟨x12.mPuzzle.mGrid.mRows, x12.mPuzzle.mGrid.mCols, x12.mPuzzle.mGrid.mCells⟩ : Gx.Grid), x12.mPuzzle.mClues, x12.mPuzzle.mSeals, x12.mPuzzle.mSalt⟩ : Gx.Puzzle), x11, x12.mOpen, x12.mClose⟩ : Gx.Issue)) p1.2.2) fun x13 =>
  bnd (getI (List.set p1.1 (Int.toNat p1.2.2) (⟨x13.mNumber, (⟨(⟨x13.mPuzzle.mGrid.mRows, x13.mPuzzle.mGrid.mCols, x13.mPuzzle.mGrid.mCells⟩ : Gx.Grid), x13.mPuzzle.mClues, x13.mPuzzle.mSeals, x13.mPuzzle.mSalt⟩ : Gx.Puzzle), x13.mFill, w64 ((w64 (x9.2 + 1)) + 1), x13.mClose⟩ : Gx.Issue)) p1.2.2) fun x14 =>
  some (.inl (List.set p1.1 (Int.toNat p1.2.2) (⟨x14.mNumber, (⟨(⟨x14.mPuzzle.mGrid.mRows, x14.mPuzzle.mGrid.mCols, x14.mPuzzle.mGrid.mCells⟩ : Gx.Grid), x14.mPuzzle.mClues, x14.mPuzzle.mSeals, x14.mPuzzle.mSalt⟩ : Gx.Puzzle), x14.mFill, x14.mOpen, w64 ((w64 ((w64 (x9.2 + 1)) + 1)) + 1)⟩ : Gx.Issue), w64 ((w64 ((w64 ((w64 (x9.2 + 1)) + 1)) + 1)) + 1), w64 (p1.2.2 + 1))))
  (some (.inr ((p1.1, p1.2.1))))
def l_markIssueS (N : Nat) (v0 : List (Gx.Issue)) (v1 : Int) : Option ((List (Gx.Issue)) × Int) :=
 bnd (α := (List (Gx.Issue)) × Int) (
  loopN (l_markIssueS_L1 N) N (v0, v1, 0)) fun t15 =>
 some (t15.1, t15.2)
def l_markUsedS_L1 (N : Nat) (p1 : (List (Gx.Used)) × Int × Int) : Option (Sum ((List (Gx.Used)) × Int × Int) ((List (Gx.Used)) × Int)) :=
 sel (decide (p1.2.2 < (p1.1.length : Int)))
  (bnd (l_markText N p1.2.1) fun x1 =>
  bnd (getI p1.1 p1.2.2) fun x2 =>
  bnd (getI (List.set p1.1 (Int.toNat p1.2.2) (⟨x1, x2.mIssue⟩ : Gx.Used)) p1.2.2) fun x3 =>
  some (.inl (List.set p1.1 (Int.toNat p1.2.2) (⟨x3.mWord, w64 (p1.2.1 + 1)⟩ : Gx.Used), w64 ((w64 (p1.2.1 + 1)) + 1), w64 (p1.2.2 + 1))))
  (some (.inr ((p1.1, p1.2.1))))
def l_markUsedS (N : Nat) (v0 : List (Gx.Used)) (v1 : Int) : Option ((List (Gx.Used)) × Int) :=
 bnd (α := (List (Gx.Used)) × Int) (
  loopN (l_markUsedS_L1 N) N (v0, v1, 0)) fun t4 =>
 some (t4.1, t4.2)
def l_markCorrectionS_L1 (N : Nat) (p1 : (List (Gx.Correction)) × Int × Int) : Option (Sum ((List (Gx.Correction)) × Int × Int) ((List (Gx.Correction)) × Int)) :=
 sel (decide (p1.2.2 < (p1.1.length : Int)))
  (bnd (getI p1.1 p1.2.2) fun x1 =>
  bnd (getI (List.set p1.1 (Int.toNat p1.2.2) (⟨p1.2.1, x1.mSlot, (⟨x1.mClue.mSense, x1.mClue.mPlay⟩ : Gx.Clue), x1.mTick⟩ : Gx.Correction)) p1.2.2) fun x2 =>
  bnd (getI (List.set p1.1 (Int.toNat p1.2.2) (⟨x2.mIssue, w64 (p1.2.1 + 1), (⟨x2.mClue.mSense, x2.mClue.mPlay⟩ : Gx.Clue), x2.mTick⟩ : Gx.Correction)) p1.2.2) fun x3 =>
  bnd (getI (List.set p1.1 (Int.toNat p1.2.2) (⟨x3.mIssue, x3.mSlot, (⟨w64 ((w64 (p1.2.1 + 1)) + 1), x3.mClue.mPlay⟩ : Gx.Clue), x3.mTick⟩ : Gx.Correction)) p1.2.2) fun x4 =>
  bnd (l_markStepS N x4.mClue.mPlay (w64 ((w64 ((w64 (p1.2.1 + 1)) + 1)) + 1))) fun x5 =>
  bnd (getI (List.set p1.1 (Int.toNat p1.2.2) (⟨x4.mIssue, x4.mSlot, (⟨x4.mClue.mSense, x5.1⟩ : Gx.Clue), x4.mTick⟩ : Gx.Correction)) p1.2.2) fun x6 =>
  some (.inl (List.set p1.1 (Int.toNat p1.2.2) (⟨x6.mIssue, x6.mSlot, (⟨x6.mClue.mSense, x6.mClue.mPlay⟩ : Gx.Clue), x5.2⟩ : Gx.Correction), w64 (x5.2 + 1), w64 (p1.2.2 + 1))))
  (some (.inr ((p1.1, p1.2.1))))
def l_markCorrectionS (N : Nat) (v0 : List (Gx.Correction)) (v1 : Int) : Option ((List (Gx.Correction)) × Int) :=
 bnd (α := (List (Gx.Correction)) × Int) (
  loopN (l_markCorrectionS_L1 N) N (v0, v1, 0)) fun t7 =>
 some (t7.1, t7.2)
def l_markEntryS_L1 (N : Nat) (p1 : (List (Gx.Entry)) × Int × Int) : Option (Sum ((List (Gx.Entry)) × Int × Int) ((List (Gx.Entry)) × Int)) :=
 sel (decide (p1.2.2 < (p1.1.length : Int)))
  (bnd (getI p1.1 p1.2.2) fun x1 =>
  bnd (getI (List.set p1.1 (Int.toNat p1.2.2) (⟨p1.2.1, x1.mIssue, x1.mTick, x1.mFill⟩ : Gx.Entry)) p1.2.2) fun x2 =>
  bnd (getI (List.set p1.1 (Int.toNat p1.2.2) (⟨x2.mPlayer, w64 (p1.2.1 + 1), x2.mTick, x2.mFill⟩ : Gx.Entry)) p1.2.2) fun x3 =>
  bnd (l_markText N (w64 ((w64 ((w64 (p1.2.1 + 1)) + 1)) + 1))) fun x4 =>
  bnd (getI (List.set p1.1 (Int.toNat p1.2.2) (⟨x3.mPlayer, x3.mIssue, w64 ((w64 (p1.2.1 + 1)) + 1), x3.mFill⟩ : Gx.Entry)) p1.2.2) fun x5 =>
  some (.inl (List.set p1.1 (Int.toNat p1.2.2) (⟨x5.mPlayer, x5.mIssue, x5.mTick, x4⟩ : Gx.Entry), w64 ((w64 ((w64 ((w64 (p1.2.1 + 1)) + 1)) + 1)) + 1), w64 (p1.2.2 + 1))))
  (some (.inr ((p1.1, p1.2.1))))
def l_markEntryS (N : Nat) (v0 : List (Gx.Entry)) (v1 : Int) : Option ((List (Gx.Entry)) × Int) :=
 bnd (α := (List (Gx.Entry)) × Int) (
  loopN (l_markEntryS_L1 N) N (v0, v1, 0)) fun t6 =>
 some (t6.1, t6.2)
def l_markHouse (N : Nat) (v0 : Gx.House) (v1 : Int) : Option ((List (Gx.Listed)) × (List (Gx.Meaning)) × (List (Gx.Clue)) × (List (Gx.Issue)) × (List (Gx.Used)) × (List (Gx.Correction)) × (List (Gx.Entry)) × Int) :=
 bnd (l_markListedS N v0.mList v1) fun x1 =>
 bnd (l_markMeaningS N v0.mDict x1.2) fun x2 =>
 bnd (l_markDraft N v0.mDesk x2.2) fun x3 =>
 bnd (l_markIssueS N v0.mIssues x3.2) fun x4 =>
 bnd (l_markUsedS N v0.mUses x4.2) fun x5 =>
 bnd (l_markCorrectionS N v0.mCorrections x5.2) fun x6 =>
 bnd (l_markEntryS N v0.mEntries x6.2) fun x7 =>
 some (x1.1, x2.1, x3.1, x4.1, x5.1, x6.1, x7.1, x7.2)
def l_heldListedS_L1 (N : Nat) (v0 : List (Gx.Listed)) (p1 : Int × Int) : Option (Sum (Int × Int) (Cut (Int) (Int))) :=
 sel (decide (p1.2 < (v0.length : Int)))
  (bnd (getI v0 p1.2) fun x1 =>
  bnd (l_markText N p1.1) fun x2 =>
  sel (x1.mWord != x2)
   (some (.inr (.rt ((-1)))))
   (bnd (getI v0 p1.2) fun x3 =>
   sel (x3.mFrom != (w64 (p1.1 + 1)))
    (some (.inr (.rt ((-1)))))
    (bnd (getI v0 p1.2) fun x4 =>
    sel (x4.mUntil != (w64 ((w64 (p1.1 + 1)) + 1)))
     (some (.inr (.rt ((-1)))))
     (bnd (getI v0 p1.2) fun x5 =>
     sel (x5.mScore != (w64 ((w64 ((w64 (p1.1 + 1)) + 1)) + 1)))
      (some (.inr (.rt ((-1)))))
      (some (.inl (w64 ((w64 ((w64 ((w64 (p1.1 + 1)) + 1)) + 1)) + 1), w64 (p1.2 + 1))))))))
  (some (.inr (.nx p1.1)))
def l_heldListedS (N : Nat) (v0 : List (Gx.Listed)) (v1 : Int) : Option (Int) :=
 cutb (α := Int) (
  loopN (l_heldListedS_L1 N v0) N (v1, 0)) fun t6 =>
 some t6
def l_heldMeaningS_L1 (N : Nat) (v0 : List (Gx.Meaning)) (p1 : Int × Int) : Option (Sum (Int × Int) (Cut (Int) (Int))) :=
 sel (decide (p1.2 < (v0.length : Int)))
  (bnd (getI v0 p1.2) fun x1 =>
  bnd (l_markText N p1.1) fun x2 =>
  sel (x1.mWord != x2)
   (some (.inr (.rt ((-1)))))
   (bnd (getI v0 p1.2) fun x3 =>
   sel (x3.mSense != (w64 (p1.1 + 1)))
    (some (.inr (.rt ((-1)))))
    (some (.inl (w64 ((w64 (p1.1 + 1)) + 1), w64 (p1.2 + 1))))))
  (some (.inr (.nx p1.1)))
def l_heldMeaningS (N : Nat) (v0 : List (Gx.Meaning)) (v1 : Int) : Option (Int) :=
 cutb (α := Int) (
  loopN (l_heldMeaningS_L1 N v0) N (v1, 0)) fun t4 =>
 some t4
def l_heldStepS_L1 (N : Nat) (v0 : List (Gx.Step)) (p1 : Int × Int) : Option (Sum (Int × Int) (Cut (Int) (Int))) :=
 sel (decide (p1.2 < (v0.length : Int)))
  (bnd (getI v0 p1.2) fun x1 =>
  sel (x1.mKind != p1.1)
   (some (.inr (.rt ((-1)))))
   (bnd (getI v0 p1.2) fun x2 =>
   bnd (l_markText N (w64 (p1.1 + 1))) fun x3 =>
   sel (x2.mWord != x3)
    (some (.inr (.rt ((-1)))))
    (bnd (getI v0 p1.2) fun x4 =>
    sel (x4.mA != (w64 ((w64 (p1.1 + 1)) + 1)))
     (some (.inr (.rt ((-1)))))
     (bnd (getI v0 p1.2) fun x5 =>
     sel (x5.mB != (w64 ((w64 ((w64 (p1.1 + 1)) + 1)) + 1)))
      (some (.inr (.rt ((-1)))))
      (some (.inl (w64 ((w64 ((w64 ((w64 (p1.1 + 1)) + 1)) + 1)) + 1), w64 (p1.2 + 1))))))))
  (some (.inr (.nx p1.1)))
def l_heldStepS (N : Nat) (v0 : List (Gx.Step)) (v1 : Int) : Option (Int) :=
 cutb (α := Int) (
  loopN (l_heldStepS_L1 N v0) N (v1, 0)) fun t6 =>
 some t6
def l_heldClueS_L1 (N : Nat) (v0 : List (Gx.Clue)) (p1 : Int × Int) : Option (Sum (Int × Int) (Cut (Int) (Int))) :=
 sel (decide (p1.2 < (v0.length : Int)))
  (bnd (getI v0 p1.2) fun x1 =>
  sel (x1.mSense != p1.1)
   (some (.inr (.rt ((-1)))))
   (bnd (getI v0 p1.2) fun x2 =>
   bnd (l_heldStepS N x2.mPlay (w64 (p1.1 + 1))) fun x3 =>
   sel (decide (x3 < 0))
    (some (.inr (.rt ((-1)))))
    (some (.inl (x3, w64 (p1.2 + 1))))))
  (some (.inr (.nx p1.1)))
def l_heldClueS (N : Nat) (v0 : List (Gx.Clue)) (v1 : Int) : Option (Int) :=
 cutb (α := Int) (
  loopN (l_heldClueS_L1 N v0) N (v1, 0)) fun t4 =>
 some t4
def l_heldDraft (N : Nat) (v0 : Gx.Draft) (v1 : Int) : Option (Int) :=
 bnd (l_heldClueS N v0.mClues v1) fun x1 =>
 sel (decide (x1 < 0))
  (some (-1))
  (some x1)
def l_heldIntS_L1 (N : Nat) (v0 : List (Int)) (p1 : Int × Int) : Option (Sum (Int × Int) (Cut (Int) (Int))) :=
 sel (decide (p1.2 < (v0.length : Int)))
  (bnd (getI v0 p1.2) fun x1 =>
  sel (x1 != p1.1)
   (some (.inr (.rt ((-1)))))
   (some (.inl (w64 (p1.1 + 1), w64 (p1.2 + 1)))))
  (some (.inr (.nx p1.1)))
def l_heldIntS (N : Nat) (v0 : List (Int)) (v1 : Int) : Option (Int) :=
 cutb (α := Int) (
  loopN (l_heldIntS_L1 N v0) N (v1, 0)) fun t2 =>
 some t2
def l_heldIssueS_L1 (N : Nat) (v0 : List (Gx.Issue)) (p1 : Int × Int) : Option (Sum (Int × Int) (Cut (Int) (Int))) :=
 sel (decide (p1.2 < (v0.length : Int)))
  (bnd (getI v0 p1.2) fun x1 =>
  sel (x1.mNumber != p1.1)
   (some (.inr (.rt ((-1)))))
   (bnd (getI v0 p1.2) fun x2 =>
   sel (x2.mPuzzle.mGrid.mRows != (w64 (p1.1 + 1)))
    (some (.inr (.rt ((-1)))))
    (bnd (getI v0 p1.2) fun x3 =>
    sel (x3.mPuzzle.mGrid.mCols != (w64 ((w64 (p1.1 + 1)) + 1)))
     (some (.inr (.rt ((-1)))))
     (bnd (getI v0 p1.2) fun x4 =>
     bnd (l_markText N (w64 ((w64 ((w64 (p1.1 + 1)) + 1)) + 1))) fun x5 =>
     sel (x4.mPuzzle.mGrid.mCells != x5)
      (some (.inr (.rt ((-1)))))
      (bnd (getI v0 p1.2) fun x6 =>
      bnd (l_heldClueS N x6.mPuzzle.mClues (w64 ((w64 ((w64 ((w64 (p1.1 + 1)) + 1)) + 1)) + 1))) fun x7 =>
      sel (decide (x7 < 0))
       (some (.inr (.rt ((-1)))))
       (bnd (getI v0 p1.2) fun x8 =>
       bnd (l_heldIntS N x8.mPuzzle.mSeals x7) fun x9 =>
       sel (decide (x9 < 0))
        (some (.inr (.rt ((-1)))))
        (bnd (getI v0 p1.2) fun x10 =>
        sel (x10.mPuzzle.mSalt != x9)
         (some (.inr (.rt ((-1)))))
         (bnd (getI v0 p1.2) fun x11 =>
         bnd (l_markText N (w64 (x9 + 1))) fun x12 =>
         sel (x11.mFill != x12)
          (some (.inr (.rt ((-1)))))
          (bnd (getI v0 p1.2) fun x13 =>
          sel (x13.mOpen != (w64 ((w64 (x9 + 1)) + 1)))
           (some (.inr (.rt ((-1)))))
           (bnd (getI v0 p1.2) fun x14 =>
           sel (x14.mClose != (w64 ((w64 ((w64 (x9 + 1)) + 1)) + 1)))
            (some (.inr (.rt ((-1)))))
            (some (.inl (w64 ((w64 ((w64 ((w64 (x9 + 1)) + 1)) + 1)) + 1), w64 (p1.2 + 1))))))))))))))
  (some (.inr (.nx p1.1)))
def l_heldIssueS (N : Nat) (v0 : List (Gx.Issue)) (v1 : Int) : Option (Int) :=
 cutb (α := Int) (
  loopN (l_heldIssueS_L1 N v0) N (v1, 0)) fun t15 =>
 some t15
def l_heldUsedS_L1 (N : Nat) (v0 : List (Gx.Used)) (p1 : Int × Int) : Option (Sum (Int × Int) (Cut (Int) (Int))) :=
 sel (decide (p1.2 < (v0.length : Int)))
  (bnd (getI v0 p1.2) fun x1 =>
  bnd (l_markText N p1.1) fun x2 =>
  sel (x1.mWord != x2)
   (some (.inr (.rt ((-1)))))
   (bnd (getI v0 p1.2) fun x3 =>
   sel (x3.mIssue != (w64 (p1.1 + 1)))
    (some (.inr (.rt ((-1)))))
    (some (.inl (w64 ((w64 (p1.1 + 1)) + 1), w64 (p1.2 + 1))))))
  (some (.inr (.nx p1.1)))
def l_heldUsedS (N : Nat) (v0 : List (Gx.Used)) (v1 : Int) : Option (Int) :=
 cutb (α := Int) (
  loopN (l_heldUsedS_L1 N v0) N (v1, 0)) fun t4 =>
 some t4
def l_heldCorrectionS_L1 (N : Nat) (v0 : List (Gx.Correction)) (p1 : Int × Int) : Option (Sum (Int × Int) (Cut (Int) (Int))) :=
 sel (decide (p1.2 < (v0.length : Int)))
  (bnd (getI v0 p1.2) fun x1 =>
  sel (x1.mIssue != p1.1)
   (some (.inr (.rt ((-1)))))
   (bnd (getI v0 p1.2) fun x2 =>
   sel (x2.mSlot != (w64 (p1.1 + 1)))
    (some (.inr (.rt ((-1)))))
    (bnd (getI v0 p1.2) fun x3 =>
    sel (x3.mClue.mSense != (w64 ((w64 (p1.1 + 1)) + 1)))
     (some (.inr (.rt ((-1)))))
     (bnd (getI v0 p1.2) fun x4 =>
     bnd (l_heldStepS N x4.mClue.mPlay (w64 ((w64 ((w64 (p1.1 + 1)) + 1)) + 1))) fun x5 =>
     sel (decide (x5 < 0))
      (some (.inr (.rt ((-1)))))
      (bnd (getI v0 p1.2) fun x6 =>
      sel (x6.mTick != x5)
       (some (.inr (.rt ((-1)))))
       (some (.inl (w64 (x5 + 1), w64 (p1.2 + 1)))))))))
  (some (.inr (.nx p1.1)))
def l_heldCorrectionS (N : Nat) (v0 : List (Gx.Correction)) (v1 : Int) : Option (Int) :=
 cutb (α := Int) (
  loopN (l_heldCorrectionS_L1 N v0) N (v1, 0)) fun t7 =>
 some t7
def l_heldEntryS_L1 (N : Nat) (v0 : List (Gx.Entry)) (p1 : Int × Int) : Option (Sum (Int × Int) (Cut (Int) (Int))) :=
 sel (decide (p1.2 < (v0.length : Int)))
  (bnd (getI v0 p1.2) fun x1 =>
  sel (x1.mPlayer != p1.1)
   (some (.inr (.rt ((-1)))))
   (bnd (getI v0 p1.2) fun x2 =>
   sel (x2.mIssue != (w64 (p1.1 + 1)))
    (some (.inr (.rt ((-1)))))
    (bnd (getI v0 p1.2) fun x3 =>
    sel (x3.mTick != (w64 ((w64 (p1.1 + 1)) + 1)))
     (some (.inr (.rt ((-1)))))
     (bnd (getI v0 p1.2) fun x4 =>
     bnd (l_markText N (w64 ((w64 ((w64 (p1.1 + 1)) + 1)) + 1))) fun x5 =>
     sel (x4.mFill != x5)
      (some (.inr (.rt ((-1)))))
      (some (.inl (w64 ((w64 ((w64 ((w64 (p1.1 + 1)) + 1)) + 1)) + 1), w64 (p1.2 + 1))))))))
  (some (.inr (.nx p1.1)))
def l_heldEntryS (N : Nat) (v0 : List (Gx.Entry)) (v1 : Int) : Option (Int) :=
 cutb (α := Int) (
  loopN (l_heldEntryS_L1 N v0) N (v1, 0)) fun t6 =>
 some t6
def l_heldHouse (N : Nat) (v0 : Gx.House) (v1 : Int) : Option (Int) :=
 bnd (l_heldListedS N v0.mList v1) fun x1 =>
 sel (decide (x1 < 0))
  (some (-1))
  (bnd (l_heldMeaningS N v0.mDict x1) fun x2 =>
  sel (decide (x2 < 0))
   (some (-1))
   (bnd (l_heldDraft N v0.mDesk x2) fun x3 =>
   sel (decide (x3 < 0))
    (some (-1))
    (bnd (l_heldIssueS N v0.mIssues x3) fun x4 =>
    sel (decide (x4 < 0))
     (some (-1))
     (bnd (l_heldUsedS N v0.mUses x4) fun x5 =>
     sel (decide (x5 < 0))
      (some (-1))
      (bnd (l_heldCorrectionS N v0.mCorrections x5) fun x6 =>
      sel (decide (x6 < 0))
       (some (-1))
       (bnd (l_heldEntryS N v0.mEntries x6) fun x7 =>
       sel (decide (x7 < 0))
        (some (-1))
        (some x7)))))))
def l_FnExactStepDesk (N : Nat) (v0 : Gx.House) (v1 : Gx.Grid) : Option (Bool) :=
 bnd (l_szHouse N v0 1048576) fun x1 =>
 sel (decide (x1 < 0))
  (some true)
  (bnd (l_szGrid N v1 x1) fun x2 =>
  sel (decide (x2 < 0))
   (some true)
   (bnd (l_toHouse N v0) fun x3 =>
   bnd (l_toGrid N v1) fun x4 =>
   bnd (s_StepDesk N x3 x4) fun x5 =>
   bnd (l_toHouse N v0) fun x6 =>
   bnd (l_toGrid N v1) fun x7 =>
   bnd (i_StepDesk N x6 x7) fun x8 =>
   bnd (l_eqHouse N x8.1 x5.1) fun x9 =>
   sel (!x9)
    (some false)
    (sel (x8.2 != x5.2)
     (some false)
     (bnd (l_toHouse N v0) fun x10 =>
     bnd (l_eqHouse N x6 x10) fun x11 =>
     sel (!x11)
      (some false)
      (bnd (l_markHouse N x6 1) fun x12 =>
      sel (decide (x12.2.2.2.2.2.2.2 < 0))
       (some false)
       (bnd (l_eqHouse N x8.1 x5.1) fun x13 =>
       sel (!x13)
        (some false)
        (sel (x8.2 != x5.2)
         (some false)
         (bnd (l_markHouse N x8.1 1) fun x14 =>
         bnd (l_heldHouse N (⟨x14.1, x14.2.1, (⟨(⟨x8.1.mDesk.mGrid.mRows, x8.1.mDesk.mGrid.mCols, x8.1.mDesk.mGrid.mCells⟩ : Gx.Grid), x8.1.mDesk.mFill, x14.2.2.1, x8.1.mDesk.mVersion⟩ : Gx.Draft), x14.2.2.2.1, x14.2.2.2.2.1, x14.2.2.2.2.2.1, x14.2.2.2.2.2.2.1, x8.1.mNow⟩ : Gx.House) 1) fun x15 =>
         sel (decide (x15 < 0))
          (some false)
          (sel (x15 != x14.2.2.2.2.2.2.2)
           (some false)
           (bnd (l_toHouse N v0) fun x16 =>
           bnd (l_toGrid N v1) fun x17 =>
           bnd (i_StepDesk N x16 x17) fun x18 =>
           bnd (l_eqHouse N x18.1 x5.1) fun x19 =>
           sel (!x19)
            (some false)
            (sel (x18.2 != x5.2)
             (some false)
             (bnd (l_heldHouse N (⟨x14.1, x14.2.1, (⟨(⟨x8.1.mDesk.mGrid.mRows, x8.1.mDesk.mGrid.mCols, x8.1.mDesk.mGrid.mCells⟩ : Gx.Grid), x8.1.mDesk.mFill, x14.2.2.1, x8.1.mDesk.mVersion⟩ : Gx.Draft), x14.2.2.2.1, x14.2.2.2.2.1, x14.2.2.2.2.2.1, x14.2.2.2.2.2.2.1, x8.1.mNow⟩ : Gx.House) 1) fun x20 =>
             sel (decide (x20 < 0))
              (some false)
              (sel (x20 != x14.2.2.2.2.2.2.2)
               (some false)
               (some true))))))))))))))
end Lw
end Go.Proofs
