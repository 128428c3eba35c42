/- PRINTED BY gen.py (mine): the functions that the law reaches, as plain functions. -/
import Derived.Test.YtniibgdokfnomaaGreatAvLp
namespace Go.Proofs
open Go Go.Av
set_option maxRecDepth 100000
set_option maxHeartbeats 40000000
set_option linter.unusedVariables false
set_option linter.unusedSimpArgs false
namespace Lw
def g_slices_Clone_Simpl_Used_impl_Used (N:Nat) (l:List (Gx.Used)):Option (List (Gx.Used)):=chk (l.length≤274877906944) (some l)
def g_slices_Insert_Simpl_Used_impl_Used (N:Nat) (l:List (Gx.Used)) (i:Int) (v:List (Gx.Used)):Option (List (Gx.Used)):=chk (0≤i∧i≤(l.length:Int)∧l.length≤4194304∧v.length=1) (some ((l.take (Int.toNat i)++v)++l.drop (Int.toNat i)))
def l_szListed (N:Nat) (v0:Gx.Listed) (v1:Int):Option (Int):=
 sel (decide ((w64 (v1 - (v0.mWord.length:Int)))<0))
  (some (-1))
  (some (w64 (v1 - (v0.mWord.length:Int))))
def l_szListedS_L1 (N:Nat) (v0:List (Gx.Listed)) (p1:Int×Int):Option (Sum (Int×Int) (Cut (Int) (Int))):=
 sel (decide (p1.2<(v0.length:Int)))
  (bnd (getI v0 p1.2) fun x1=>
  bnd (l_szListed N x1 p1.1) fun x2=>
  sel (decide (x2<0))
   (some (.inr (.rt ((-1)))))
   (some (.inl (x2,w64 (p1.2+1)))))
  (some (.inr (.nx p1.1)))
def l_szListedS (N:Nat) (v0:List (Gx.Listed)) (v1:Int):Option (Int):=
 sel (decide ((w64 (v1 - (v0.length:Int)))<0))
  (some (-1))
  (cutb (α:=Int) (
   loopN (l_szListedS_L1 N v0) N (w64 (v1 - (v0.length:Int)),0)) fun t3=>
  some t3)
def l_szMeaning (N:Nat) (v0:Gx.Meaning) (v1:Int):Option (Int):=
 sel (decide ((w64 (v1 - (v0.mWord.length:Int)))<0))
  (some (-1))
  (some (w64 (v1 - (v0.mWord.length:Int))))
def l_szMeaningS_L1 (N:Nat) (v0:List (Gx.Meaning)) (p1:Int×Int):Option (Sum (Int×Int) (Cut (Int) (Int))):=
 sel (decide (p1.2<(v0.length:Int)))
  (bnd (getI v0 p1.2) fun x1=>
  bnd (l_szMeaning N x1 p1.1) fun x2=>
  sel (decide (x2<0))
   (some (.inr (.rt ((-1)))))
   (some (.inl (x2,w64 (p1.2+1)))))
  (some (.inr (.nx p1.1)))
def l_szMeaningS (N:Nat) (v0:List (Gx.Meaning)) (v1:Int):Option (Int):=
 sel (decide ((w64 (v1 - (v0.length:Int)))<0))
  (some (-1))
  (cutb (α:=Int) (
   loopN (l_szMeaningS_L1 N v0) N (w64 (v1 - (v0.length:Int)),0)) fun t3=>
  some t3)
def l_szGrid (N:Nat) (v0:Gx.Grid) (v1:Int):Option (Int):=
 sel (decide ((w64 (v1 - (v0.mCells.length:Int)))<0))
  (some (-1))
  (some (w64 (v1 - (v0.mCells.length:Int))))
def l_szStep (N:Nat) (v0:Gx.Step) (v1:Int):Option (Int):=
 sel (decide ((w64 (v1 - (v0.mWord.length:Int)))<0))
  (some (-1))
  (some (w64 (v1 - (v0.mWord.length:Int))))
def l_szStepS_L1 (N:Nat) (v0:List (Gx.Step)) (p1:Int×Int):Option (Sum (Int×Int) (Cut (Int) (Int))):=
 sel (decide (p1.2<(v0.length:Int)))
  (bnd (getI v0 p1.2) fun x1=>
  bnd (l_szStep N x1 p1.1) fun x2=>
  sel (decide (x2<0))
   (some (.inr (.rt ((-1)))))
   (some (.inl (x2,w64 (p1.2+1)))))
  (some (.inr (.nx p1.1)))
def l_szStepS (N:Nat) (v0:List (Gx.Step)) (v1:Int):Option (Int):=
 sel (decide ((w64 (v1 - (v0.length:Int)))<0))
  (some (-1))
  (cutb (α:=Int) (
   loopN (l_szStepS_L1 N v0) N (w64 (v1 - (v0.length:Int)),0)) fun t3=>
  some t3)
def l_szClue (N:Nat) (v0:Gx.Clue) (v1:Int):Option (Int):=
 bnd (l_szStepS N v0.mPlay v1) fun x1=>
 sel (decide (x1<0))
  (some (-1))
  (some x1)
def l_szClueS_L1 (N:Nat) (v0:List (Gx.Clue)) (p1:Int×Int):Option (Sum (Int×Int) (Cut (Int) (Int))):=
 sel (decide (p1.2<(v0.length:Int)))
  (bnd (getI v0 p1.2) fun x1=>
  bnd (l_szClue N x1 p1.1) fun x2=>
  sel (decide (x2<0))
   (some (.inr (.rt ((-1)))))
   (some (.inl (x2,w64 (p1.2+1)))))
  (some (.inr (.nx p1.1)))
def l_szClueS (N:Nat) (v0:List (Gx.Clue)) (v1:Int):Option (Int):=
 sel (decide ((w64 (v1 - (v0.length:Int)))<0))
  (some (-1))
  (cutb (α:=Int) (
   loopN (l_szClueS_L1 N v0) N (w64 (v1 - (v0.length:Int)),0)) fun t3=>
  some t3)
def l_szDraft (N:Nat) (v0:Gx.Draft) (v1:Int):Option (Int):=
 bnd (l_szGrid N v0.mGrid v1) fun x1=>
 sel (decide (x1<0))
  (some (-1))
  (sel (decide ((w64 (x1 - (v0.mFill.length:Int)))<0))
   (some (-1))
   (bnd (l_szClueS N v0.mClues (w64 (x1 - (v0.mFill.length:Int)))) fun x2=>
   sel (decide (x2<0))
    (some (-1))
    (some x2)))
def l_szIntS (N:Nat) (v0:List (Int)) (v1:Int):Option (Int):=
 sel (decide ((w64 (v1 - (v0.length:Int)))<0))
  (some (-1))
  (some (w64 (v1 - (v0.length:Int))))
def l_szPuzzle (N:Nat) (v0:Gx.Puzzle) (v1:Int):Option (Int):=
 bnd (l_szGrid N v0.mGrid v1) fun x1=>
 sel (decide (x1<0))
  (some (-1))
  (bnd (l_szClueS N v0.mClues x1) fun x2=>
  sel (decide (x2<0))
   (some (-1))
   (bnd (l_szIntS N v0.mSeals x2) fun x3=>
   sel (decide (x3<0))
    (some (-1))
    (some x3)))
def l_szIssue (N:Nat) (v0:Gx.Issue) (v1:Int):Option (Int):=
 bnd (l_szPuzzle N v0.mPuzzle v1) fun x1=>
 sel (decide (x1<0))
  (some (-1))
  (sel (decide ((w64 (x1 - (v0.mFill.length:Int)))<0))
   (some (-1))
   (some (w64 (x1 - (v0.mFill.length:Int)))))
def l_szIssueS_L1 (N:Nat) (v0:List (Gx.Issue)) (p1:Int×Int):Option (Sum (Int×Int) (Cut (Int) (Int))):=
 sel (decide (p1.2<(v0.length:Int)))
  (bnd (getI v0 p1.2) fun x1=>
  bnd (l_szIssue N x1 p1.1) fun x2=>
  sel (decide (x2<0))
   (some (.inr (.rt ((-1)))))
   (some (.inl (x2,w64 (p1.2+1)))))
  (some (.inr (.nx p1.1)))
def l_szIssueS (N:Nat) (v0:List (Gx.Issue)) (v1:Int):Option (Int):=
 sel (decide ((w64 (v1 - (v0.length:Int)))<0))
  (some (-1))
  (cutb (α:=Int) (
   loopN (l_szIssueS_L1 N v0) N (w64 (v1 - (v0.length:Int)),0)) fun t3=>
  some t3)
def l_szUsed (N:Nat) (v0:Gx.Used) (v1:Int):Option (Int):=
 sel (decide ((w64 (v1 - (v0.mWord.length:Int)))<0))
  (some (-1))
  (some (w64 (v1 - (v0.mWord.length:Int))))
def l_szUsedS_L1 (N:Nat) (v0:List (Gx.Used)) (p1:Int×Int):Option (Sum (Int×Int) (Cut (Int) (Int))):=
 sel (decide (p1.2<(v0.length:Int)))
  (bnd (getI v0 p1.2) fun x1=>
  bnd (l_szUsed N x1 p1.1) fun x2=>
  sel (decide (x2<0))
   (some (.inr (.rt ((-1)))))
   (some (.inl (x2,w64 (p1.2+1)))))
  (some (.inr (.nx p1.1)))
def l_szUsedS (N:Nat) (v0:List (Gx.Used)) (v1:Int):Option (Int):=
 sel (decide ((w64 (v1 - (v0.length:Int)))<0))
  (some (-1))
  (cutb (α:=Int) (
   loopN (l_szUsedS_L1 N v0) N (w64 (v1 - (v0.length:Int)),0)) fun t3=>
  some t3)
def l_szCorrection (N:Nat) (v0:Gx.Correction) (v1:Int):Option (Int):=
 bnd (l_szClue N v0.mClue v1) fun x1=>
 sel (decide (x1<0))
  (some (-1))
  (some x1)
def l_szCorrectionS_L1 (N:Nat) (v0:List (Gx.Correction)) (p1:Int×Int):Option (Sum (Int×Int) (Cut (Int) (Int))):=
 sel (decide (p1.2<(v0.length:Int)))
  (bnd (getI v0 p1.2) fun x1=>
  bnd (l_szCorrection N x1 p1.1) fun x2=>
  sel (decide (x2<0))
   (some (.inr (.rt ((-1)))))
   (some (.inl (x2,w64 (p1.2+1)))))
  (some (.inr (.nx p1.1)))
def l_szCorrectionS (N:Nat) (v0:List (Gx.Correction)) (v1:Int):Option (Int):=
 sel (decide ((w64 (v1 - (v0.length:Int)))<0))
  (some (-1))
  (cutb (α:=Int) (
   loopN (l_szCorrectionS_L1 N v0) N (w64 (v1 - (v0.length:Int)),0)) fun t3=>
  some t3)
def l_szEntry (N:Nat) (v0:Gx.Entry) (v1:Int):Option (Int):=
 sel (decide ((w64 (v1 - (v0.mFill.length:Int)))<0))
  (some (-1))
  (some (w64 (v1 - (v0.mFill.length:Int))))
def l_szEntryS_L1 (N:Nat) (v0:List (Gx.Entry)) (p1:Int×Int):Option (Sum (Int×Int) (Cut (Int) (Int))):=
 sel (decide (p1.2<(v0.length:Int)))
  (bnd (getI v0 p1.2) fun x1=>
  bnd (l_szEntry N x1 p1.1) fun x2=>
  sel (decide (x2<0))
   (some (.inr (.rt ((-1)))))
   (some (.inl (x2,w64 (p1.2+1)))))
  (some (.inr (.nx p1.1)))
def l_szEntryS (N:Nat) (v0:List (Gx.Entry)) (v1:Int):Option (Int):=
 sel (decide ((w64 (v1 - (v0.length:Int)))<0))
  (some (-1))
  (cutb (α:=Int) (
   loopN (l_szEntryS_L1 N v0) N (w64 (v1 - (v0.length:Int)),0)) fun t3=>
  some t3)
def l_szHouse (N:Nat) (v0:Gx.House) (v1:Int):Option (Int):=
 bnd (l_szListedS N v0.mList v1) fun x1=>
 sel (decide (x1<0))
  (some (-1))
  (bnd (l_szMeaningS N v0.mDict x1) fun x2=>
  sel (decide (x2<0))
   (some (-1))
   (bnd (l_szDraft N v0.mDesk x2) fun x3=>
   sel (decide (x3<0))
    (some (-1))
    (bnd (l_szIssueS N v0.mIssues x3) fun x4=>
    sel (decide (x4<0))
     (some (-1))
     (bnd (l_szUsedS N v0.mUses x4) fun x5=>
     sel (decide (x5<0))
      (some (-1))
      (bnd (l_szCorrectionS N v0.mCorrections x5) fun x6=>
      sel (decide (x6<0))
       (some (-1))
       (bnd (l_szEntryS N v0.mEntries x6) fun x7=>
       sel (decide (x7<0))
        (some (-1))
        (some x7)))))))
def l_toListed (N:Nat) (v0:Gx.Listed):Option (Gx.Listed):=
 some v0
def l_toListedS_L1 (N:Nat) (v0:List (Gx.Listed)) (p1:(List (Gx.Listed))×Int):Option (Sum ((List (Gx.Listed))×Int) ((List (Gx.Listed)))):=
 sel (decide (p1.2<(v0.length:Int)))
  (bnd (getI v0 p1.2) fun x1=>
  bnd (l_toListed N x1) fun x2=>
  bnd (getI p1.1 p1.2) fun x3=>
  some (.inl (List.set p1.1 (Int.toNat p1.2) x2,w64 (p1.2+1))))
  (some (.inr (p1.1)))
def l_toListedS (N:Nat) (v0:List (Gx.Listed)):Option ((List (Gx.Listed))):=
 chk (0≤(v0.length:Int)∧(v0.length:Int)≤274877906944) <|
 bnd (α:=(List (Gx.Listed))) (
  loopN (l_toListedS_L1 N v0) N (List.replicate (Int.toNat (v0.length:Int)) (⟨([]:List UInt8),0,0,0⟩:Gx.Listed),0)) fun t4=>
 some t4
def l_toMeaning (N:Nat) (v0:Gx.Meaning):Option (Gx.Meaning):=
 some v0
def l_toMeaningS_L1 (N:Nat) (v0:List (Gx.Meaning)) (p1:(List (Gx.Meaning))×Int):Option (Sum ((List (Gx.Meaning))×Int) ((List (Gx.Meaning)))):=
 sel (decide (p1.2<(v0.length:Int)))
  (bnd (getI v0 p1.2) fun x1=>
  bnd (l_toMeaning N x1) fun x2=>
  bnd (getI p1.1 p1.2) fun x3=>
  some (.inl (List.set p1.1 (Int.toNat p1.2) x2,w64 (p1.2+1))))
  (some (.inr (p1.1)))
def l_toMeaningS (N:Nat) (v0:List (Gx.Meaning)):Option ((List (Gx.Meaning))):=
 chk (0≤(v0.length:Int)∧(v0.length:Int)≤274877906944) <|
 bnd (α:=(List (Gx.Meaning))) (
  loopN (l_toMeaningS_L1 N v0) N (List.replicate (Int.toNat (v0.length:Int)) (⟨([]:List UInt8),0⟩:Gx.Meaning),0)) fun t4=>
 some t4
def l_toGrid (N:Nat) (v0:Gx.Grid):Option (Gx.Grid):=
 some v0
def l_toStep (N:Nat) (v0:Gx.Step):Option (Gx.Step):=
 some v0
def l_toStepS_L1 (N:Nat) (v0:List (Gx.Step)) (p1:(List (Gx.Step))×Int):Option (Sum ((List (Gx.Step))×Int) ((List (Gx.Step)))):=
 sel (decide (p1.2<(v0.length:Int)))
  (bnd (getI v0 p1.2) fun x1=>
  bnd (l_toStep N x1) fun x2=>
  bnd (getI p1.1 p1.2) fun x3=>
  some (.inl (List.set p1.1 (Int.toNat p1.2) x2,w64 (p1.2+1))))
  (some (.inr (p1.1)))
def l_toStepS (N:Nat) (v0:List (Gx.Step)):Option ((List (Gx.Step))):=
 chk (0≤(v0.length:Int)∧(v0.length:Int)≤274877906944) <|
 bnd (α:=(List (Gx.Step))) (
  loopN (l_toStepS_L1 N v0) N (List.replicate (Int.toNat (v0.length:Int)) (⟨0,([]:List UInt8),0,0⟩:Gx.Step),0)) fun t4=>
 some t4
def l_toClue (N:Nat) (v0:Gx.Clue):Option (Gx.Clue):=
 bnd (l_toStepS N v0.mPlay) fun x1=>
 some (⟨v0.mSense,x1⟩:Gx.Clue)
def l_toClueS_L1 (N:Nat) (v0:List (Gx.Clue)) (p1:(List (Gx.Clue))×Int):Option (Sum ((List (Gx.Clue))×Int) ((List (Gx.Clue)))):=
 sel (decide (p1.2<(v0.length:Int)))
  (bnd (getI v0 p1.2) fun x1=>
  bnd (l_toClue N x1) fun x2=>
  bnd (getI p1.1 p1.2) fun x3=>
  some (.inl (List.set p1.1 (Int.toNat p1.2) x2,w64 (p1.2+1))))
  (some (.inr (p1.1)))
def l_toClueS (N:Nat) (v0:List (Gx.Clue)):Option ((List (Gx.Clue))):=
 chk (0≤(v0.length:Int)∧(v0.length:Int)≤274877906944) <|
 bnd (α:=(List (Gx.Clue))) (
  loopN (l_toClueS_L1 N v0) N (List.replicate (Int.toNat (v0.length:Int)) (⟨0,[]⟩:Gx.Clue),0)) fun t4=>
 some t4
def l_toDraft (N:Nat) (v0:Gx.Draft):Option (Gx.Draft):=
 bnd (l_toGrid N v0.mGrid) fun x1=>
 bnd (l_toClueS N v0.mClues) fun x2=>
 some (⟨(⟨x1.mRows,x1.mCols,x1.mCells⟩:Gx.Grid),v0.mFill,x2,v0.mVersion⟩:Gx.Draft)
def l_toIntS_L1 (N:Nat) (v0:List (Int)) (p1:(List (Int))×Int):Option (Sum ((List (Int))×Int) ((List (Int)))):=
 sel (decide (p1.2<(v0.length:Int)))
  (bnd (getI v0 p1.2) fun x1=>
  bnd (getI p1.1 p1.2) fun x2=>
  some (.inl (List.set p1.1 (Int.toNat p1.2) x1,w64 (p1.2+1))))
  (some (.inr (p1.1)))
def l_toIntS (N:Nat) (v0:List (Int)):Option ((List (Int))):=
 chk (0≤(v0.length:Int)∧(v0.length:Int)≤274877906944) <|
 bnd (α:=(List (Int))) (
  loopN (l_toIntS_L1 N v0) N (List.replicate (Int.toNat (v0.length:Int)) 0,0)) fun t3=>
 some t3
def l_toPuzzle (N:Nat) (v0:Gx.Puzzle):Option (Gx.Puzzle):=
 bnd (l_toGrid N v0.mGrid) fun x1=>
 bnd (l_toClueS N v0.mClues) fun x2=>
 bnd (l_toIntS N v0.mSeals) fun x3=>
 some (⟨(⟨x1.mRows,x1.mCols,x1.mCells⟩:Gx.Grid),x2,x3,v0.mSalt⟩:Gx.Puzzle)
def l_toIssue (N:Nat) (v0:Gx.Issue):Option (Gx.Issue):=
 bnd (l_toPuzzle N v0.mPuzzle) fun x1=>
 some (⟨v0.mNumber,(⟨(⟨x1.mGrid.mRows,x1.mGrid.mCols,x1.mGrid.mCells⟩:Gx.Grid),x1.mClues,x1.mSeals,x1.mSalt⟩:Gx.Puzzle),v0.mFill,v0.mOpen,v0.mClose⟩:Gx.Issue)
def l_toIssueS_L1 (N:Nat) (v0:List (Gx.Issue)) (p1:(List (Gx.Issue))×Int):Option (Sum ((List (Gx.Issue))×Int) ((List (Gx.Issue)))):=
 sel (decide (p1.2<(v0.length:Int)))
  (bnd (getI v0 p1.2) fun x1=>
  bnd (l_toIssue N x1) fun x2=>
  bnd (getI p1.1 p1.2) fun x3=>
  some (.inl (List.set p1.1 (Int.toNat p1.2) x2,w64 (p1.2+1))))
  (some (.inr (p1.1)))
def l_toIssueS (N:Nat) (v0:List (Gx.Issue)):Option ((List (Gx.Issue))):=
 chk (0≤(v0.length:Int)∧(v0.length:Int)≤274877906944) <|
 bnd (α:=(List (Gx.Issue))) (
  loopN (l_toIssueS_L1 N v0) N (List.replicate (Int.toNat (v0.length:Int)) (⟨0,(⟨(⟨0,0,([]:List UInt8)⟩:Gx.Grid),[],[],0⟩:Gx.Puzzle),([]:List UInt8),0,0⟩:Gx.Issue),0)) fun t4=>
 some t4
def l_toUsed (N:Nat) (v0:Gx.Used):Option (Gx.Used):=
 some v0
def l_toUsedS_L1 (N:Nat) (v0:List (Gx.Used)) (p1:(List (Gx.Used))×Int):Option (Sum ((List (Gx.Used))×Int) ((List (Gx.Used)))):=
 sel (decide (p1.2<(v0.length:Int)))
  (bnd (getI v0 p1.2) fun x1=>
  bnd (l_toUsed N x1) fun x2=>
  bnd (getI p1.1 p1.2) fun x3=>
  some (.inl (List.set p1.1 (Int.toNat p1.2) x2,w64 (p1.2+1))))
  (some (.inr (p1.1)))
def l_toUsedS (N:Nat) (v0:List (Gx.Used)):Option ((List (Gx.Used))):=
 chk (0≤(v0.length:Int)∧(v0.length:Int)≤274877906944) <|
 bnd (α:=(List (Gx.Used))) (
  loopN (l_toUsedS_L1 N v0) N (List.replicate (Int.toNat (v0.length:Int)) (⟨([]:List UInt8),0⟩:Gx.Used),0)) fun t4=>
 some t4
def l_toCorrection (N:Nat) (v0:Gx.Correction):Option (Gx.Correction):=
 bnd (l_toClue N v0.mClue) fun x1=>
 some (⟨v0.mIssue,v0.mSlot,(⟨x1.mSense,x1.mPlay⟩:Gx.Clue),v0.mTick⟩:Gx.Correction)
def l_toCorrectionS_L1 (N:Nat) (v0:List (Gx.Correction)) (p1:(List (Gx.Correction))×Int):Option (Sum ((List (Gx.Correction))×Int) ((List (Gx.Correction)))):=
 sel (decide (p1.2<(v0.length:Int)))
  (bnd (getI v0 p1.2) fun x1=>
  bnd (l_toCorrection N x1) fun x2=>
  bnd (getI p1.1 p1.2) fun x3=>
  some (.inl (List.set p1.1 (Int.toNat p1.2) x2,w64 (p1.2+1))))
  (some (.inr (p1.1)))
def l_toCorrectionS (N:Nat) (v0:List (Gx.Correction)):Option ((List (Gx.Correction))):=
 chk (0≤(v0.length:Int)∧(v0.length:Int)≤274877906944) <|
 bnd (α:=(List (Gx.Correction))) (
  loopN (l_toCorrectionS_L1 N v0) N (List.replicate (Int.toNat (v0.length:Int)) (⟨0,0,(⟨0,[]⟩:Gx.Clue),0⟩:Gx.Correction),0)) fun t4=>
 some t4
def l_toEntry (N:Nat) (v0:Gx.Entry):Option (Gx.Entry):=
 some v0
def l_toEntryS_L1 (N:Nat) (v0:List (Gx.Entry)) (p1:(List (Gx.Entry))×Int):Option (Sum ((List (Gx.Entry))×Int) ((List (Gx.Entry)))):=
 sel (decide (p1.2<(v0.length:Int)))
  (bnd (getI v0 p1.2) fun x1=>
  bnd (l_toEntry N x1) fun x2=>
  bnd (getI p1.1 p1.2) fun x3=>
  some (.inl (List.set p1.1 (Int.toNat p1.2) x2,w64 (p1.2+1))))
  (some (.inr (p1.1)))
def l_toEntryS (N:Nat) (v0:List (Gx.Entry)):Option ((List (Gx.Entry))):=
 chk (0≤(v0.length:Int)∧(v0.length:Int)≤274877906944) <|
 bnd (α:=(List (Gx.Entry))) (
  loopN (l_toEntryS_L1 N v0) N (List.replicate (Int.toNat (v0.length:Int)) (⟨0,0,0,([]:List UInt8)⟩:Gx.Entry),0)) fun t4=>
 some t4
def l_toHouse (N:Nat) (v0:Gx.House):Option (Gx.House):=
 bnd (l_toListedS N v0.mList) fun x1=>
 bnd (l_toMeaningS N v0.mDict) fun x2=>
 bnd (l_toDraft N v0.mDesk) fun x3=>
 bnd (l_toIssueS N v0.mIssues) fun x4=>
 bnd (l_toUsedS N v0.mUses) fun x5=>
 bnd (l_toCorrectionS N v0.mCorrections) fun x6=>
 bnd (l_toEntryS N v0.mEntries) fun x7=>
 some (⟨x1,x2,(⟨(⟨x3.mGrid.mRows,x3.mGrid.mCols,x3.mGrid.mCells⟩:Gx.Grid),x3.mFill,x3.mClues,x3.mVersion⟩:Gx.Draft),x4,x5,x6,x7,v0.mNow⟩:Gx.House)
def s_l1In (N:Nat) (v0:Int) (v1:Int) (v2:Int):Option (Bool):=
 sel (decide (v0≥v1))
  (some (decide (v0≤v2)))
  (some false)
def s_IsGrid_L1 (N:Nat) (v0:Gx.Grid) (p1:Int):Option (Sum (Int) (Cut (Unit) (Bool))):=
 sel (decide (p1<(v0.mCells.length:Int)))
  (chk (0≤p1∧p1<(v0.mCells.length:Int)) <|
  sel ((byteI v0.mCells p1) != 35)
   (chk (0≤p1∧p1<(v0.mCells.length:Int)) <|
   sel ((byteI v0.mCells p1) != 46)
    (some (.inr (.rt (false))))
    (some (.inl (w64 (p1+1)))))
   (some (.inl (w64 (p1+1)))))
  (some (.inr (.nx ())))
def s_IsGrid (N:Nat) (v0:Gx.Grid):Option (Bool):=
 bnd (s_l1In N v0.mRows 2 6) fun x1=>
 sel (!x1)
  (some false)
  (bnd (s_l1In N v0.mCols 2 6) fun x2=>
  sel (!x2)
   (some false)
   (sel ((v0.mCells.length:Int) != (w64 (v0.mRows * v0.mCols)))
    (some false)
    (cutb (α:=Unit) (
     loopN (s_IsGrid_L1 N v0) N 0) fun t3=>
    some true)))
def s_l8From_L1 (N:Nat) (t1:Int×Int×Int) (v1:Int) (v0:Gx.Grid) (p1:Int):Option (Sum (Int) (Int)):=
 sel (decide ((w64 (t1.2.1+p1))<t1.2.2))
  (chk (0≤(w64 (v1+(w64 (p1 * t1.1))))∧(w64 (v1+(w64 (p1 * t1.1))))<(v0.mCells.length:Int)) <|
  sel ((byteI v0.mCells (w64 (v1+(w64 (p1 * t1.1))))) == 46)
   (some (.inl (w64 (p1+1))))
   (some (.inr (p1))))
  (some (.inr (p1)))
def s_l8From (N:Nat) (v0:Gx.Grid) (v1:Int) (v2:Bool):Option (Int):=
 chk ((v0.mCols:Int)≠0) <|
 bnd (α:=Int×Int×Int) (
  sel (v2)
   (chk ((v0.mCols:Int)≠0) <|
   some (v0.mCols,w64 (Int.tdiv v1 v0.mCols),v0.mRows))
   (some (1,Int.tmod v1 v0.mCols,v0.mCols))) fun t1=>
 cutb (α:=Unit) (
  chk (0≤v1∧v1<(v0.mCells.length:Int)) <|
  sel ((byteI v0.mCells v1) != 46)
   (some (.rt (0)))
   (sel (decide (t1.2.1>0))
    (chk (0≤(w64 (v1 - t1.1))∧(w64 (v1 - t1.1))<(v0.mCells.length:Int)) <|
    sel ((byteI v0.mCells (w64 (v1 - t1.1))) == 46)
     (some (.rt (0)))
     (some (.nx ())))
    (some (.nx ())))) fun t2=>
 bnd (α:=Int) (
  loopN (s_l8From_L1 N t1 v1 v0) N 0) fun t3=>
 some t3
def s_SlotsOf_L1 (N:Nat) (v0:Gx.Grid) (p1:(List (Gx.Slot))×Int×Int):Option (Sum ((List (Gx.Slot))×Int×Int) ((List (Gx.Slot)))):=
 sel (decide (p1.2.2<(v0.mCells.length:Int)))
  (bnd (s_IsGrid N v0) fun x1=>
  sel (x1)
   (bnd (s_l8From N v0 p1.2.2 false) fun x2=>
   bnd (s_l8From N v0 p1.2.2 true) fun x3=>
   bnd (α:=Int) (
    sel (decide (x2≥2))
     (some (w64 (p1.2.1+1)))
     (sel (decide (x3≥2))
      (some (w64 (p1.2.1+1)))
      (some p1.2.1))) fun t4=>
   bnd (α:=(List (Gx.Slot))) (
    sel (decide (x2≥2))
     (chk (p1.1.length+([(⟨t4,false,p1.2.2,x2⟩:Gx.Slot)]).length≤274877906944) <|
     some (p1.1++([(⟨t4,false,p1.2.2,x2⟩:Gx.Slot)])))
     (some p1.1)) fun t5=>
   sel (decide (x3≥2))
    (chk (t5.length+([(⟨t4,true,p1.2.2,x3⟩:Gx.Slot)]).length≤274877906944) <|
    some (.inl (t5++([(⟨t4,true,p1.2.2,x3⟩:Gx.Slot)]),t4,w64 (p1.2.2+1))))
    (some (.inl (t5,t4,w64 (p1.2.2+1)))))
   (some (.inr (p1.1))))
  (some (.inr (p1.1)))
def s_SlotsOf (N:Nat) (v0:Gx.Grid):Option ((List (Gx.Slot))):=
 bnd (α:=(List (Gx.Slot))) (
  loopN (s_SlotsOf_L1 N v0) N ([],0,0)) fun t6=>
 some t6
def s_IsFill_L1 (N:Nat) (v1:List UInt8) (v0:Gx.Grid) (p1:Int):Option (Sum (Int) (Cut (Unit) (Bool))):=
 sel (decide (p1<(v1.length:Int)))
  (bnd (α:=Bool) (
   chk (0≤p1∧p1<(v1.length:Int)) <|
   sel ((byteI v1 p1) == 63)
    (some true)
    (chk (0≤p1∧p1<(v1.length:Int)) <|
    sel (decide ((byteI v1 p1)≥97))
     (chk (0≤p1∧p1<(v1.length:Int)) <|
     some (decide ((byteI v1 p1)≤122)))
     (some false))) fun t2=>
  chk (0≤p1∧p1<(v0.mCells.length:Int)) <|
  sel ((byteI v0.mCells p1) == 35)
   (chk (0≤p1∧p1<(v1.length:Int)) <|
   sel ((byteI v1 p1) != 35)
    (some (.inr (.rt (false))))
    (chk (0≤p1∧p1<(v0.mCells.length:Int)) <|
    sel ((byteI v0.mCells p1) == 46)
     (sel (!t2)
      (some (.inr (.rt (false))))
      (some (.inl (w64 (p1+1)))))
     (some (.inl (w64 (p1+1))))))
   (chk (0≤p1∧p1<(v0.mCells.length:Int)) <|
   sel ((byteI v0.mCells p1) == 46)
    (sel (!t2)
     (some (.inr (.rt (false))))
     (some (.inl (w64 (p1+1)))))
    (some (.inl (w64 (p1+1))))))
  (some (.inr (.nx ())))
def s_IsFill (N:Nat) (v0:Gx.Grid) (v1:List UInt8):Option (Bool):=
 bnd (s_IsGrid N v0) fun x1=>
 sel (!x1)
  (some false)
  (sel ((v1.length:Int) != (v0.mCells.length:Int))
   (some false)
   (cutb (α:=Unit) (
    loopN (s_IsFill_L1 N v1 v0) N 0) fun t3=>
   some true))
def s_CellsOf_L2 (N:Nat) (v1:Gx.Slot) (v0:Gx.Grid) (p2:(List (Int))×Int):Option (Sum ((List (Int))×Int) ((List (Int)))):=
 sel (decide (p2.2<v1.mLength))
  (sel (v1.mDown)
   (chk (p2.1.length+([w64 (v1.mCell+(w64 (p2.2 * v0.mCols)))]).length≤274877906944) <|
   some (.inl (p2.1++([w64 (v1.mCell+(w64 (p2.2 * v0.mCols)))]),w64 (p2.2+1))))
   (chk (p2.1.length+([w64 (v1.mCell+p2.2)]).length≤274877906944) <|
   some (.inl (p2.1++([w64 (v1.mCell+p2.2)]),w64 (p2.2+1)))))
  (some (.inr (p2.1)))
def s_CellsOf_L1 (N:Nat) (x1:(List (Gx.Slot))) (v1:Gx.Slot) (v0:Gx.Grid) (p1:(List (Int))×Int):Option (Sum ((List (Int))×Int) ((List (Int)))):=
 sel (decide (p1.2<(x1.length:Int)))
  (bnd (α:=(List (Int))) (
   bnd (getI x1 p1.2) fun x2=>
   sel (!(x2.mNumber == v1.mNumber && (x2.mDown == v1.mDown && (x2.mCell == v1.mCell && (x2.mLength == v1.mLength && true)))))
    (some p1.1)
    (loopN (s_CellsOf_L2 N v1 v0) N (p1.1,0))) fun t3=>
  some (.inl (t3,w64 (p1.2+1))))
  (some (.inr (p1.1)))
def s_CellsOf (N:Nat) (v0:Gx.Grid) (v1:Gx.Slot):Option ((List (Int))):=
 bnd (s_SlotsOf N v0) fun x1=>
 bnd (α:=(List (Int))) (
  loopN (s_CellsOf_L1 N x1 v1 v0) N ([],0)) fun t4=>
 some t4
def s_SlotPattern_L1 (N:Nat) (x5:(List (Int))) (v1:List UInt8) (p1:(List UInt8)×Int):Option (Sum ((List UInt8)×Int) ((List UInt8))):=
 sel (decide (p1.2<(x5.length:Int)))
  (bnd (getI x5 p1.2) fun x6=>
  bnd (getI x5 p1.2) fun x7=>
  chk (0≤x6∧x6≤(w64 (x7+1))∧(w64 (x7+1))≤(v1.length:Int)) <|
  chk (p1.1.length+(sub v1 x6 (w64 (x7+1))).length≤274877906944) <|
  some (.inl (p1.1++(sub v1 x6 (w64 (x7+1))),w64 (p1.2+1))))
  (some (.inr (p1.1)))
def s_SlotPattern (N:Nat) (v0:Gx.Grid) (v1:List UInt8) (v2:Int):Option ((List UInt8)):=
 bnd (s_SlotsOf N v0) fun x1=>
 bnd (s_IsFill N v0 v1) fun x2=>
 sel (!x2)
  (some ([]:List UInt8))
  (bnd (s_l1In N v2 0 (w64 ((x1.length:Int) - 1))) fun x3=>
  sel (!x3)
   (some ([]:List UInt8))
   (bnd (getI x1 v2) fun x4=>
   bnd (s_CellsOf N v0 x4) fun x5=>
   bnd (α:=(List UInt8)) (
    loopN (s_SlotPattern_L1 N x5 v1) N (([]:List UInt8),0)) fun t8=>
   some t8))
def s_l11Open_L1 (N:Nat) (v0:List UInt8) (p1:Int):Option (Sum (Int) (Cut (Unit) (Bool))):=
 sel (decide (p1<(v0.length:Int)))
  (chk (0≤p1∧p1<(v0.length:Int)) <|
  sel ((byteI v0 p1) == 63)
   (some (.inr (.rt (true))))
   (some (.inl (w64 (p1+1)))))
  (some (.inr (.nx ())))
def s_l11Open (N:Nat) (v0:List UInt8):Option (Bool):=
 cutb (α:=Unit) (
  loopN (s_l11Open_L1 N v0) N 0) fun t1=>
 some false
def s_WordsIn_L1 (N:Nat) (x1:(List (Gx.Slot))) (v0:Gx.Grid) (v1:List UInt8) (p1:(List (List UInt8))×Int):Option (Sum ((List (List UInt8))×Int) ((List (List UInt8)))):=
 sel (decide (p1.2<(x1.length:Int)))
  (bnd (s_IsFill N v0 v1) fun x2=>
  sel (x2)
   (bnd (s_SlotPattern N v0 v1 p1.2) fun x3=>
   bnd (s_l11Open N x3) fun x4=>
   sel (!x4)
    (chk (p1.1.length+([x3]).length≤274877906944) <|
    some (.inl (p1.1++([x3]),w64 (p1.2+1))))
    (some (.inl (p1.1,w64 (p1.2+1)))))
   (some (.inr (p1.1))))
  (some (.inr (p1.1)))
def s_WordsIn (N:Nat) (v0:Gx.Grid) (v1:List UInt8):Option ((List (List UInt8))):=
 bnd (s_SlotsOf N v0) fun x1=>
 bnd (α:=(List (List UInt8))) (
  loopN (s_WordsIn_L1 N x1 v0 v1) N ([],0)) fun t5=>
 some t5
def s_l36Words (N:Nat) (v0:Gx.Issue):Option ((List (List UInt8))):=
 bnd (s_WordsIn N v0.mPuzzle.mGrid v0.mFill) fun x1=>
 some x1
def s_BeforeWord (N:Nat) (v0:List UInt8) (v1:List UInt8):Option (Bool):=
 sel ((v0.length:Int) != (v1.length:Int))
  (some (decide ((v0.length:Int)<(v1.length:Int))))
  (some (Op.bytesLess v0 v1))
def s_l29Before (N:Nat) (v0:Gx.Used) (v1:Gx.Used):Option (Bool):=
 sel (decide (v0.mIssue<v1.mIssue))
  (some true)
  (sel (v0.mIssue == v1.mIssue)
   (bnd (s_BeforeWord N v0.mWord v1.mWord) fun x1=>
   some x1)
   (some false))
def s_IsWord_L1 (N:Nat) (v0:List UInt8) (p1:Int):Option (Sum (Int) (Cut (Unit) (Bool))):=
 sel (decide (p1<(v0.length:Int)))
  (chk (0≤p1∧p1<(v0.length:Int)) <|
  sel (decide ((byteI v0 p1)<97))
   (some (.inr (.rt (false))))
   (chk (0≤p1∧p1<(v0.length:Int)) <|
   sel (decide ((byteI v0 p1)>122))
    (some (.inr (.rt (false))))
    (some (.inl (w64 (p1+1))))))
  (some (.inr (.nx ())))
def s_IsWord (N:Nat) (v0:List UInt8):Option (Bool):=
 bnd (s_l1In N (v0.length:Int) 1 8) fun x1=>
 sel (!x1)
  (some false)
  (cutb (α:=Unit) (
   loopN (s_IsWord_L1 N v0) N 0) fun t2=>
  some true)
def s_AreUses_L1 (N:Nat) (v0:List (Gx.Used)) (p1:Int):Option (Sum (Int) (Cut (Unit) (Bool))):=
 sel (decide (p1<(v0.length:Int)))
  (bnd (getI v0 p1) fun x1=>
  bnd (s_IsWord N x1.mWord) fun x2=>
  sel (!x2)
   (some (.inr (.rt (false))))
   (bnd (getI v0 p1) fun x3=>
   bnd (s_l1In N x3.mIssue 1 999) fun x4=>
   sel (!x4)
    (some (.inr (.rt (false))))
    (sel (decide (p1>0))
     (bnd (getI v0 (w64 (p1 - 1))) fun x5=>
     bnd (getI v0 p1) fun x6=>
     bnd (s_l29Before N x5 x6) fun x7=>
     sel (!x7)
      (some (.inr (.rt (false))))
      (some (.inl (w64 (p1+1)))))
     (some (.inl (w64 (p1+1)))))))
  (some (.inr (.nx ())))
def s_AreUses (N:Nat) (v0:List (Gx.Used)):Option (Bool):=
 cutb (α:=Unit) (
  loopN (s_AreUses_L1 N v0) N 0) fun t8=>
 some (decide ((v0.length:Int)≤60))
def s_AddUses_L2 (N:Nat) (p1:(List (Gx.Used))×Int) (x1:List UInt8) (v2:Int) (p2:Int):Option (Sum (Int) (Int)):=
 sel (decide (p2>0))
  (bnd (getI p1.1 (w64 (p2 - 1))) fun x2=>
  bnd (s_l29Before N (⟨x1,v2⟩:Gx.Used) x2) fun x3=>
  sel (x3)
   (some (.inl (w64 (p2 - 1))))
   (some (.inr (p2))))
  (some (.inr (p2)))
def s_AddUses_L1 (N:Nat) (v1:List (List UInt8)) (v2:Int) (p1:(List (Gx.Used))×Int):Option (Sum ((List (Gx.Used))×Int) ((List (Gx.Used)))):=
 sel (decide (p1.2<(v1.length:Int)))
  (bnd (getI v1 p1.2) fun x1=>
  bnd (α:=Int) (
   loopN (s_AddUses_L2 N p1 x1 v2) N (p1.1.length:Int)) fun t4=>
  chk (0≤(0:Int)∧0≤t4∧t4≤(p1.1.length:Int)) <|
  chk (([]:List (Gx.Used)).length+(sub p1.1 0 t4).length≤274877906944) <|
  chk ((sub p1.1 0 t4).length+([(⟨x1,v2⟩:Gx.Used)]).length≤274877906944) <|
  chk (0≤t4∧t4≤(p1.1.length:Int)∧(p1.1.length:Int)≤(p1.1.length:Int)) <|
  chk (((sub p1.1 0 t4)++([(⟨x1,v2⟩:Gx.Used)])).length+(sub p1.1 t4 (p1.1.length:Int)).length≤274877906944) <|
  some (.inl (((sub p1.1 0 t4)++([(⟨x1,v2⟩:Gx.Used)]))++(sub p1.1 t4 (p1.1.length:Int)),w64 (p1.2+1))))
  (some (.inr (p1.1)))
def s_AddUses (N:Nat) (v0:List (Gx.Used)) (v1:List (List UInt8)) (v2:Int):Option ((List (Gx.Used))×Bool):=
 chk (([]:List (Gx.Used)).length+v0.length≤274877906944) <|
 bnd (α:=(List (Gx.Used))) (
  loopN (s_AddUses_L1 N v1 v2) N (v0,0)) fun t5=>
 bnd (s_AreUses N t5) fun x6=>
 sel (!x6)
  (chk (([]:List (Gx.Used)).length+v0.length≤274877906944) <|
  some (v0,false))
  (some (t5,true))
def s_IsRecorded_L1 (N:Nat) (v0:Gx.House) (p1:(List (Gx.Used))×Int):Option (Sum ((List (Gx.Used))×Int) (Cut ((List (Gx.Used))) (Bool))):=
 sel (decide (p1.2<(v0.mIssues.length:Int)))
  (bnd (getI v0.mIssues p1.2) fun x1=>
  bnd (s_l36Words N x1) fun x2=>
  bnd (getI v0.mIssues p1.2) fun x3=>
  bnd (s_AddUses N p1.1 x2 x3.mNumber) fun x4=>
  sel (!x4.2)
   (some (.inr (.rt (false))))
   (some (.inl (x4.1,w64 (p1.2+1)))))
  (some (.inr (.nx p1.1)))
def s_IsRecorded_L2 (N:Nat) (t5:(List (Gx.Used))) (v0:Gx.House) (p2:Int):Option (Sum (Int) (Cut (Unit) (Bool))):=
 sel (decide (p2<(t5.length:Int)))
  (bnd (getI t5 p2) fun x6=>
  bnd (getI v0.mUses p2) fun x7=>
  sel (!(x6.mWord == x7.mWord && (x6.mIssue == x7.mIssue && true)))
   (some (.inr (.rt (false))))
   (some (.inl (w64 (p2+1)))))
  (some (.inr (.nx ())))
def s_IsRecorded (N:Nat) (v0:Gx.House):Option (Bool):=
 cutb (α:=(List (Gx.Used))) (
  loopN (s_IsRecorded_L1 N v0) N ([],0)) fun t5=>
 sel ((t5.length:Int) != (v0.mUses.length:Int))
  (some false)
  (cutb (α:=Unit) (
   loopN (s_IsRecorded_L2 N t5 v0) N 0) fun t8=>
  some true)
def i_InRange (N:Nat) (v0:Int) (v1:Int) (v2:Int):Option (Bool):=
 sel (decide (v1≤v0))
  (some (decide (v0≤v2)))
  (some false)
def i_IsGrid_L1 (N:Nat) (v0:Gx.Grid) (p1:Int):Option (Sum (Int) (Cut (Unit) (Bool))):=
 sel (decide (p1<(v0.mCells.length:Int)))
  (chk (0≤p1∧p1<(v0.mCells.length:Int)) <|
  sel ((byteI v0.mCells p1) != 35)
   (chk (0≤p1∧p1<(v0.mCells.length:Int)) <|
   sel ((byteI v0.mCells p1) != 46)
    (some (.inr (.rt (false))))
    (some (.inl (w64 (p1+1)))))
   (some (.inl (w64 (p1+1)))))
  (some (.inr (.nx ())))
def i_IsGrid (N:Nat) (v0:Gx.Grid):Option (Bool):=
 bnd (i_InRange N v0.mRows 2 6) fun x1=>
 sel (!x1)
  (some false)
  (bnd (i_InRange N v0.mCols 2 6) fun x2=>
  sel (!x2)
   (some false)
   (sel ((v0.mCells.length:Int) != (w64 (v0.mRows * v0.mCols)))
    (some false)
    (cutb (α:=Unit) (
     loopN (i_IsGrid_L1 N v0) N 0) fun t3=>
    some true)))
def i_isLetter (N:Nat) (v0:Int):Option (Bool):=
 sel (decide (v0≥97))
  (some (decide (v0≤122)))
  (some false)
def i_IsFill_L1 (N:Nat) (v1:List UInt8) (v0:Gx.Grid) (p1:Int):Option (Sum (Int) (Cut (Unit) (Bool))):=
 sel (decide (p1<(v1.length:Int)))
  (chk (0≤p1∧p1<(v0.mCells.length:Int)) <|
  chk (0≤p1∧p1<(v1.length:Int)) <|
  sel (((byteI v0.mCells p1) == 35) != ((byteI v1 p1) == 35))
   (some (.inr (.rt (false))))
   (chk (0≤p1∧p1<(v1.length:Int)) <|
   sel ((byteI v1 p1) != 35)
    (chk (0≤p1∧p1<(v1.length:Int)) <|
    sel ((byteI v1 p1) != 63)
     (chk (0≤p1∧p1<(v1.length:Int)) <|
     bnd (i_isLetter N (byteI v1 p1)) fun x2=>
     sel (!x2)
      (some (.inr (.rt (false))))
      (some (.inl (w64 (p1+1)))))
     (some (.inl (w64 (p1+1)))))
    (some (.inl (w64 (p1+1))))))
  (some (.inr (.nx ())))
def i_IsFill (N:Nat) (v0:Gx.Grid) (v1:List UInt8):Option (Bool):=
 bnd (i_IsGrid N v0) fun x1=>
 sel (!x1)
  (some false)
  (sel ((v1.length:Int) != (v0.mCells.length:Int))
   (some false)
   (cutb (α:=Unit) (
    loopN (i_IsFill_L1 N v1 v0) N 0) fun t3=>
   some true))
def i_run_L1 (N:Nat) (t1:Int×Int×Int) (v1:Int) (v0:Gx.Grid) (p1:Int):Option (Sum (Int) (Int)):=
 sel (decide ((w64 (t1.2.1+p1))<t1.2.2))
  (chk (0≤(w64 (v1+(w64 (p1 * t1.1))))∧(w64 (v1+(w64 (p1 * t1.1))))<(v0.mCells.length:Int)) <|
  sel ((byteI v0.mCells (w64 (v1+(w64 (p1 * t1.1))))) == 46)
   (some (.inl (w64 (p1+1))))
   (some (.inr (p1))))
  (some (.inr (p1)))
def i_run (N:Nat) (v0:Gx.Grid) (v1:Int) (v2:Bool):Option (Int):=
 chk ((v0.mCols:Int)≠0) <|
 bnd (α:=Int×Int×Int) (
  sel (v2)
   (chk ((v0.mCols:Int)≠0) <|
   some (v0.mCols,w64 (Int.tdiv v1 v0.mCols),v0.mRows))
   (some (1,Int.tmod v1 v0.mCols,v0.mCols))) fun t1=>
 cutb (α:=Unit) (
  chk (0≤v1∧v1<(v0.mCells.length:Int)) <|
  sel ((byteI v0.mCells v1) != 46)
   (some (.rt (0)))
   (sel (decide (t1.2.1>0))
    (chk (0≤(w64 (v1 - t1.1))∧(w64 (v1 - t1.1))<(v0.mCells.length:Int)) <|
    sel ((byteI v0.mCells (w64 (v1 - t1.1))) == 46)
     (some (.rt (0)))
     (some (.nx ())))
    (some (.nx ())))) fun t2=>
 bnd (α:=Int) (
  loopN (i_run_L1 N t1 v1 v0) N 0) fun t3=>
 some t3
def i_SlotsOf_L1 (N:Nat) (v0:Gx.Grid) (p1:(List (Gx.Slot))×Int×Int):Option (Sum ((List (Gx.Slot))×Int×Int) ((List (Gx.Slot)))):=
 sel (decide (p1.2.2<(v0.mCells.length:Int)))
  (bnd (i_run N v0 p1.2.2 false) fun x2=>
  bnd (i_run N v0 p1.2.2 true) fun x3=>
  bnd (α:=Int) (
   sel (decide (x2≥2))
    (some (w64 (p1.2.1+1)))
    (sel (decide (x3≥2))
     (some (w64 (p1.2.1+1)))
     (some p1.2.1))) fun t4=>
  bnd (α:=(List (Gx.Slot))) (
   sel (decide (x2≥2))
    (chk (p1.1.length+([(⟨t4,false,p1.2.2,x2⟩:Gx.Slot)]).length≤274877906944) <|
    some (p1.1++([(⟨t4,false,p1.2.2,x2⟩:Gx.Slot)])))
    (some p1.1)) fun t5=>
  sel (decide (x3≥2))
   (chk (t5.length+([(⟨t4,true,p1.2.2,x3⟩:Gx.Slot)]).length≤274877906944) <|
   some (.inl (t5++([(⟨t4,true,p1.2.2,x3⟩:Gx.Slot)]),t4,w64 (p1.2.2+1))))
   (some (.inl (t5,t4,w64 (p1.2.2+1)))))
  (some (.inr (p1.1)))
def i_SlotsOf (N:Nat) (v0:Gx.Grid):Option ((List (Gx.Slot))):=
 bnd (i_IsGrid N v0) fun x1=>
 sel (!x1)
  (some ([]))
  (bnd (α:=(List (Gx.Slot))) (
   loopN (i_SlotsOf_L1 N v0) N ([],0,0)) fun t6=>
  some t6)
def i_cells_L1 (N:Nat) (v1:Gx.Slot) (t1:Int) (p1:(List (Int))×Int):Option (Sum ((List (Int))×Int) ((List (Int)))):=
 sel (decide (p1.2<v1.mLength))
  (chk (p1.1.length+([w64 (v1.mCell+(w64 (p1.2 * t1)))]).length≤274877906944) <|
  some (.inl (p1.1++([w64 (v1.mCell+(w64 (p1.2 * t1)))]),w64 (p1.2+1))))
  (some (.inr (p1.1)))
def i_cells (N:Nat) (v0:Gx.Grid) (v1:Gx.Slot):Option ((List (Int))):=
 bnd (α:=Int) (
  sel (v1.mDown)
   (some v0.mCols)
   (some 1)) fun t1=>
 bnd (α:=(List (Int))) (
  loopN (i_cells_L1 N v1 t1) N ([],0)) fun t2=>
 some t2
def i_layout_L1 (N:Nat) (x1:(List (Gx.Slot))) (v0:Gx.Grid) (p1:(List (List (Int)))×Int):Option (Sum ((List (List (Int)))×Int) ((List (List (Int))))):=
 sel (decide (p1.2<(x1.length:Int)))
  (bnd (getI x1 p1.2) fun x2=>
  bnd (i_cells N v0 x2) fun x3=>
  chk (p1.1.length+([x3]).length≤274877906944) <|
  some (.inl (p1.1++([x3]),w64 (p1.2+1))))
  (some (.inr (p1.1)))
def i_layout (N:Nat) (v0:Gx.Grid):Option ((List (List (Int)))):=
 bnd (α:=(List (List (Int)))) (
  bnd (i_SlotsOf N v0) fun x1=>
  loopN (i_layout_L1 N x1 v0) N ([],0)) fun t4=>
 some t4
def i_readCells_L1 (N:Nat) (v1:List (Int)) (v0:List UInt8) (p1:(List (UInt8))×Int):Option (Sum ((List (UInt8))×Int) ((List (UInt8)))):=
 sel (decide (p1.2<(v1.length:Int)))
  (bnd (getI v1 p1.2) fun x1=>
  chk (0≤x1∧x1<(v0.length:Int)) <|
  chk (p1.1.length+([List.getD v0 (Int.toNat x1) 0]).length≤274877906944) <|
  some (.inl (p1.1++([List.getD v0 (Int.toNat x1) 0]),w64 (p1.2+1))))
  (some (.inr (p1.1)))
def i_readCells (N:Nat) (v0:List UInt8) (v1:List (Int)):Option ((List UInt8)):=
 bnd (α:=(List (UInt8))) (
  loopN (i_readCells_L1 N v1 v0) N ([],0)) fun t2=>
 some t2
def i_patterns_L1 (N:Nat) (x2:(List (List (Int)))) (v1:List UInt8) (p1:(List (List UInt8))×Int):Option (Sum ((List (List UInt8))×Int) ((List (List UInt8)))):=
 sel (decide (p1.2<(x2.length:Int)))
  (bnd (getI x2 p1.2) fun x3=>
  bnd (i_readCells N v1 x3) fun x4=>
  chk (p1.1.length+([x4]).length≤274877906944) <|
  some (.inl (p1.1++([x4]),w64 (p1.2+1))))
  (some (.inr (p1.1)))
def i_patterns (N:Nat) (v0:Gx.Grid) (v1:List UInt8):Option ((List (List UInt8))):=
 bnd (i_IsFill N v0 v1) fun x1=>
 sel (!x1)
  (some ([]))
  (bnd (α:=(List (List UInt8))) (
   bnd (i_layout N v0) fun x2=>
   loopN (i_patterns_L1 N x2 v1) N ([],0)) fun t5=>
  some t5)
def i_openIn_L1 (N:Nat) (v0:List UInt8) (p1:Int×Int):Option (Sum (Int×Int) (Int)):=
 sel (decide (p1.2<(v0.length:Int)))
  (chk (0≤p1.2∧p1.2<(v0.length:Int)) <|
  sel ((byteI v0 p1.2) == 63)
   (some (.inl (w64 (p1.1+1),w64 (p1.2+1))))
   (some (.inl (p1.1,w64 (p1.2+1)))))
  (some (.inr (p1.1)))
def i_openIn (N:Nat) (v0:List UInt8):Option (Int):=
 bnd (α:=Int) (
  loopN (i_openIn_L1 N v0) N (0,0)) fun t1=>
 some t1
def i_WordsIn_1 (N:Nat) (v0:List UInt8):Option (Bool):=
 bnd (i_openIn N v0) fun x1=>
 some (x1 == 0)
def i_those_L1 (N:Nat) (v0:List (List UInt8)) (v1:(List UInt8)→Option Bool) (p1:(List (List UInt8))×Int):Option (Sum ((List (List UInt8))×Int) ((List (List UInt8)))):=
 sel (decide (p1.2<(v0.length:Int)))
  (bnd (getI v0 p1.2) fun x1=>
  bnd (v1 x1) fun x2=>
  sel (x2)
   (chk (p1.1.length+([x1]).length≤274877906944) <|
   some (.inl (p1.1++([x1]),w64 (p1.2+1))))
   (some (.inl (p1.1,w64 (p1.2+1)))))
  (some (.inr (p1.1)))
def i_those (N:Nat) (v0:List (List UInt8)) (v1:(List UInt8)→Option Bool):Option ((List (List UInt8))):=
 bnd (α:=(List (List UInt8))) (
  loopN (i_those_L1 N v0 v1) N ([],0)) fun t3=>
 some t3
def i_WordsIn (N:Nat) (v0:Gx.Grid) (v1:List UInt8):Option ((List (List UInt8))):=
 bnd (i_patterns N v0 v1) fun x1=>
 bnd (i_those N x1 (fun a0=>i_WordsIn_1 N a0)) fun x2=>
 some x2
def i_Issue_words (N:Nat) (v0:Gx.Issue):Option ((List (List UInt8))):=
 bnd (i_WordsIn N v0.mPuzzle.mGrid v0.mFill) fun x1=>
 some x1
def i_BeforeWord (N:Nat) (v0:List UInt8) (v1:List UInt8):Option (Bool):=
 sel ((v0.length:Int) != (v1.length:Int))
  (some (decide ((v0.length:Int)<(v1.length:Int))))
  (some (Op.bytesLess v0 v1))
def i_beforeUse (N:Nat) (v0:Gx.Used) (v1:Gx.Used):Option (Bool):=
 sel (v0.mIssue != v1.mIssue)
  (some (decide (v0.mIssue<v1.mIssue)))
  (bnd (i_BeforeWord N v0.mWord v1.mWord) fun x1=>
  some x1)
def i_IsWord_L1 (N:Nat) (v0:List UInt8) (p1:Int):Option (Sum (Int) (Cut (Unit) (Bool))):=
 sel (decide (p1<(v0.length:Int)))
  (chk (0≤p1∧p1<(v0.length:Int)) <|
  bnd (i_isLetter N (byteI v0 p1)) fun x2=>
  sel (!x2)
   (some (.inr (.rt (false))))
   (some (.inl (w64 (p1+1)))))
  (some (.inr (.nx ())))
def i_IsWord (N:Nat) (v0:List UInt8):Option (Bool):=
 bnd (i_InRange N (v0.length:Int) 1 8) fun x1=>
 sel (!x1)
  (some false)
  (cutb (α:=Unit) (
   loopN (i_IsWord_L1 N v0) N 0) fun t3=>
  some true)
def i_AreUses_L1 (N:Nat) (v0:List (Gx.Used)) (p1:Int):Option (Sum (Int) (Cut (Unit) (Bool))):=
 sel (decide (p1<(v0.length:Int)))
  (bnd (getI v0 p1) fun x1=>
  sel (decide (p1>0))
   (bnd (getI v0 (w64 (p1 - 1))) fun x2=>
   bnd (i_beforeUse N x2 x1) fun x3=>
   sel (!x3)
    (some (.inr (.rt (false))))
    (bnd (i_IsWord N x1.mWord) fun x4=>
    sel (!x4)
     (some (.inr (.rt (false))))
     (bnd (i_InRange N x1.mIssue 1 999) fun x5=>
     sel (!x5)
      (some (.inr (.rt (false))))
      (some (.inl (w64 (p1+1)))))))
   (bnd (i_IsWord N x1.mWord) fun x6=>
   sel (!x6)
    (some (.inr (.rt (false))))
    (bnd (i_InRange N x1.mIssue 1 999) fun x7=>
    sel (!x7)
     (some (.inr (.rt (false))))
     (some (.inl (w64 (p1+1)))))))
  (some (.inr (.nx ())))
def i_AreUses (N:Nat) (v0:List (Gx.Used)):Option (Bool):=
 sel (decide ((v0.length:Int)>60))
  (some false)
  (cutb (α:=Unit) (
   loopN (i_AreUses_L1 N v0) N 0) fun t8=>
  some true)
def i_AddUses_L2 (N:Nat) (p1:(List (Gx.Used))×Int) (x2:List UInt8) (v2:Int) (p2:Int):Option (Sum (Int) (Int)):=
 sel (decide (p2<(p1.1.length:Int)))
  (bnd (getI p1.1 p2) fun x3=>
  bnd (i_beforeUse N x3 (⟨x2,v2⟩:Gx.Used)) fun x4=>
  sel (x4)
   (some (.inl (w64 (p2+1))))
   (some (.inr (p2))))
  (some (.inr (p2)))
def i_AddUses_L1 (N:Nat) (v1:List (List UInt8)) (v2:Int) (p1:(List (Gx.Used))×Int):Option (Sum ((List (Gx.Used))×Int) ((List (Gx.Used)))):=
 sel (decide (p1.2<(v1.length:Int)))
  (bnd (getI v1 p1.2) fun x2=>
  bnd (α:=Int) (
   loopN (i_AddUses_L2 N p1 x2 v2) N 0) fun t5=>
  bnd (g_slices_Insert_Simpl_Used_impl_Used N p1.1 t5 ([(⟨x2,v2⟩:Gx.Used)])) fun x6=>
  some (.inl (x6,w64 (p1.2+1))))
  (some (.inr (p1.1)))
def i_AddUses (N:Nat) (v0:List (Gx.Used)) (v1:List (List UInt8)) (v2:Int):Option ((List (Gx.Used))×Bool):=
 bnd (g_slices_Clone_Simpl_Used_impl_Used N v0) fun x1=>
 bnd (α:=(List (Gx.Used))) (
  loopN (i_AddUses_L1 N v1 v2) N (x1,0)) fun t7=>
 bnd (i_AreUses N t7) fun x8=>
 sel (!x8)
  (bnd (g_slices_Clone_Simpl_Used_impl_Used N v0) fun x9=>
  some (x9,false))
  (some (t7,true))
def g_slices_Equal_Simpl_Used_impl_Used_L1 (N:Nat) (v0:List (Gx.Used)) (v1:List (Gx.Used)) (p1:Int):Option (Sum (Int) (Cut (Unit) (Bool))):=
 sel (decide (p1<(v0.length:Int)))
  (bnd (getI v0 p1) fun x1=>
  bnd (getI v1 p1) fun x2=>
  sel (!(x1.mWord == x2.mWord && (x1.mIssue == x2.mIssue && true)))
   (some (.inr (.rt (false))))
   (some (.inl (w64 (p1+1)))))
  (some (.inr (.nx ())))
def g_slices_Equal_Simpl_Used_impl_Used (N:Nat) (v0:List (Gx.Used)) (v1:List (Gx.Used)):Option (Bool):=
 sel ((v0.length:Int) != (v1.length:Int))
  (some false)
  (cutb (α:=Unit) (
   loopN (g_slices_Equal_Simpl_Used_impl_Used_L1 N v0 v1) N 0) fun t3=>
  some true)
def i_IsRecorded_L1 (N:Nat) (v0:Gx.House) (p1:(List (Gx.Used))×Int):Option (Sum ((List (Gx.Used))×Int) (Cut ((List (Gx.Used))) (Bool))):=
 sel (decide (p1.2<(v0.mIssues.length:Int)))
  (bnd (getI v0.mIssues p1.2) fun x1=>
  bnd (i_Issue_words N x1) fun x2=>
  bnd (i_AddUses N p1.1 x2 x1.mNumber) fun x3=>
  sel (!x3.2)
   (some (.inr (.rt (false))))
   (some (.inl (x3.1,w64 (p1.2+1)))))
  (some (.inr (.nx p1.1)))
def i_IsRecorded (N:Nat) (v0:Gx.House):Option (Bool):=
 cutb (α:=(List (Gx.Used))) (
  loopN (i_IsRecorded_L1 N v0) N ([],0)) fun t4=>
 bnd (g_slices_Equal_Simpl_Used_impl_Used N t4 v0.mUses) fun x5=>
 some x5
def l_eqListed (N:Nat) (v0:Gx.Listed) (v1:Gx.Listed):Option (Bool):=
 sel (v0.mWord != v1.mWord)
  (some false)
  (sel (v0.mFrom != v1.mFrom)
   (some false)
   (sel (v0.mUntil != v1.mUntil)
    (some false)
    (sel (v0.mScore != v1.mScore)
     (some false)
     (some true))))
def l_eqListedS_L1 (N:Nat) (v0:List (Gx.Listed)) (v1:List (Gx.Listed)) (p1:Int):Option (Sum (Int) (Cut (Unit) (Bool))):=
 sel (decide (p1<(v0.length:Int)))
  (bnd (getI v0 p1) fun x1=>
  bnd (getI v1 p1) fun x2=>
  bnd (l_eqListed N x1 x2) fun x3=>
  sel (!x3)
   (some (.inr (.rt (false))))
   (some (.inl (w64 (p1+1)))))
  (some (.inr (.nx ())))
def l_eqListedS (N:Nat) (v0:List (Gx.Listed)) (v1:List (Gx.Listed)):Option (Bool):=
 sel ((v0.length:Int) != (v1.length:Int))
  (some false)
  (cutb (α:=Unit) (
   loopN (l_eqListedS_L1 N v0 v1) N 0) fun t4=>
  some true)
def l_eqMeaning (N:Nat) (v0:Gx.Meaning) (v1:Gx.Meaning):Option (Bool):=
 sel (v0.mWord != v1.mWord)
  (some false)
  (sel (v0.mSense != v1.mSense)
   (some false)
   (some true))
def l_eqMeaningS_L1 (N:Nat) (v0:List (Gx.Meaning)) (v1:List (Gx.Meaning)) (p1:Int):Option (Sum (Int) (Cut (Unit) (Bool))):=
 sel (decide (p1<(v0.length:Int)))
  (bnd (getI v0 p1) fun x1=>
  bnd (getI v1 p1) fun x2=>
  bnd (l_eqMeaning N x1 x2) fun x3=>
  sel (!x3)
   (some (.inr (.rt (false))))
   (some (.inl (w64 (p1+1)))))
  (some (.inr (.nx ())))
def l_eqMeaningS (N:Nat) (v0:List (Gx.Meaning)) (v1:List (Gx.Meaning)):Option (Bool):=
 sel ((v0.length:Int) != (v1.length:Int))
  (some false)
  (cutb (α:=Unit) (
   loopN (l_eqMeaningS_L1 N v0 v1) N 0) fun t4=>
  some true)
def l_eqGrid (N:Nat) (v0:Gx.Grid) (v1:Gx.Grid):Option (Bool):=
 sel (v0.mRows != v1.mRows)
  (some false)
  (sel (v0.mCols != v1.mCols)
   (some false)
   (sel (v0.mCells != v1.mCells)
    (some false)
    (some true)))
def l_eqStep (N:Nat) (v0:Gx.Step) (v1:Gx.Step):Option (Bool):=
 sel (v0.mKind != v1.mKind)
  (some false)
  (sel (v0.mWord != v1.mWord)
   (some false)
   (sel (v0.mA != v1.mA)
    (some false)
    (sel (v0.mB != v1.mB)
     (some false)
     (some true))))
def l_eqStepS_L1 (N:Nat) (v0:List (Gx.Step)) (v1:List (Gx.Step)) (p1:Int):Option (Sum (Int) (Cut (Unit) (Bool))):=
 sel (decide (p1<(v0.length:Int)))
  (bnd (getI v0 p1) fun x1=>
  bnd (getI v1 p1) fun x2=>
  bnd (l_eqStep N x1 x2) fun x3=>
  sel (!x3)
   (some (.inr (.rt (false))))
   (some (.inl (w64 (p1+1)))))
  (some (.inr (.nx ())))
def l_eqStepS (N:Nat) (v0:List (Gx.Step)) (v1:List (Gx.Step)):Option (Bool):=
 sel ((v0.length:Int) != (v1.length:Int))
  (some false)
  (cutb (α:=Unit) (
   loopN (l_eqStepS_L1 N v0 v1) N 0) fun t4=>
  some true)
def l_eqClue (N:Nat) (v0:Gx.Clue) (v1:Gx.Clue):Option (Bool):=
 sel (v0.mSense != v1.mSense)
  (some false)
  (bnd (l_eqStepS N v0.mPlay v1.mPlay) fun x1=>
  sel (!x1)
   (some false)
   (some true))
def l_eqClueS_L1 (N:Nat) (v0:List (Gx.Clue)) (v1:List (Gx.Clue)) (p1:Int):Option (Sum (Int) (Cut (Unit) (Bool))):=
 sel (decide (p1<(v0.length:Int)))
  (bnd (getI v0 p1) fun x1=>
  bnd (getI v1 p1) fun x2=>
  bnd (l_eqClue N x1 x2) fun x3=>
  sel (!x3)
   (some (.inr (.rt (false))))
   (some (.inl (w64 (p1+1)))))
  (some (.inr (.nx ())))
def l_eqClueS (N:Nat) (v0:List (Gx.Clue)) (v1:List (Gx.Clue)):Option (Bool):=
 sel ((v0.length:Int) != (v1.length:Int))
  (some false)
  (cutb (α:=Unit) (
   loopN (l_eqClueS_L1 N v0 v1) N 0) fun t4=>
  some true)
def l_eqDraft (N:Nat) (v0:Gx.Draft) (v1:Gx.Draft):Option (Bool):=
 bnd (l_eqGrid N v0.mGrid v1.mGrid) fun x1=>
 sel (!x1)
  (some false)
  (sel (v0.mFill != v1.mFill)
   (some false)
   (bnd (l_eqClueS N v0.mClues v1.mClues) fun x2=>
   sel (!x2)
    (some false)
    (sel (v0.mVersion != v1.mVersion)
     (some false)
     (some true))))
def l_eqIntS_L1 (N:Nat) (v0:List (Int)) (v1:List (Int)) (p1:Int):Option (Sum (Int) (Cut (Unit) (Bool))):=
 sel (decide (p1<(v0.length:Int)))
  (bnd (getI v0 p1) fun x1=>
  bnd (getI v1 p1) fun x2=>
  sel (x1 != x2)
   (some (.inr (.rt (false))))
   (some (.inl (w64 (p1+1)))))
  (some (.inr (.nx ())))
def l_eqIntS (N:Nat) (v0:List (Int)) (v1:List (Int)):Option (Bool):=
 sel ((v0.length:Int) != (v1.length:Int))
  (some false)
  (cutb (α:=Unit) (
   loopN (l_eqIntS_L1 N v0 v1) N 0) fun t3=>
  some true)
def l_eqPuzzle (N:Nat) (v0:Gx.Puzzle) (v1:Gx.Puzzle):Option (Bool):=
 bnd (l_eqGrid N v0.mGrid v1.mGrid) fun x1=>
 sel (!x1)
  (some false)
  (bnd (l_eqClueS N v0.mClues v1.mClues) fun x2=>
  sel (!x2)
   (some false)
   (bnd (l_eqIntS N v0.mSeals v1.mSeals) fun x3=>
   sel (!x3)
    (some false)
    (sel (v0.mSalt != v1.mSalt)
     (some false)
     (some true))))
def l_eqIssue (N:Nat) (v0:Gx.Issue) (v1:Gx.Issue):Option (Bool):=
 sel (v0.mNumber != v1.mNumber)
  (some false)
  (bnd (l_eqPuzzle N v0.mPuzzle v1.mPuzzle) fun x1=>
  sel (!x1)
   (some false)
   (sel (v0.mFill != v1.mFill)
    (some false)
    (sel (v0.mOpen != v1.mOpen)
     (some false)
     (sel (v0.mClose != v1.mClose)
      (some false)
      (some true)))))
def l_eqIssueS_L1 (N:Nat) (v0:List (Gx.Issue)) (v1:List (Gx.Issue)) (p1:Int):Option (Sum (Int) (Cut (Unit) (Bool))):=
 sel (decide (p1<(v0.length:Int)))
  (bnd (getI v0 p1) fun x1=>
  bnd (getI v1 p1) fun x2=>
  bnd (l_eqIssue N x1 x2) fun x3=>
  sel (!x3)
   (some (.inr (.rt (false))))
   (some (.inl (w64 (p1+1)))))
  (some (.inr (.nx ())))
def l_eqIssueS (N:Nat) (v0:List (Gx.Issue)) (v1:List (Gx.Issue)):Option (Bool):=
 sel ((v0.length:Int) != (v1.length:Int))
  (some false)
  (cutb (α:=Unit) (
   loopN (l_eqIssueS_L1 N v0 v1) N 0) fun t4=>
  some true)
def l_eqUsed (N:Nat) (v0:Gx.Used) (v1:Gx.Used):Option (Bool):=
 sel (v0.mWord != v1.mWord)
  (some false)
  (sel (v0.mIssue != v1.mIssue)
   (some false)
   (some true))
def l_eqUsedS_L1 (N:Nat) (v0:List (Gx.Used)) (v1:List (Gx.Used)) (p1:Int):Option (Sum (Int) (Cut (Unit) (Bool))):=
 sel (decide (p1<(v0.length:Int)))
  (bnd (getI v0 p1) fun x1=>
  bnd (getI v1 p1) fun x2=>
  bnd (l_eqUsed N x1 x2) fun x3=>
  sel (!x3)
   (some (.inr (.rt (false))))
   (some (.inl (w64 (p1+1)))))
  (some (.inr (.nx ())))
def l_eqUsedS (N:Nat) (v0:List (Gx.Used)) (v1:List (Gx.Used)):Option (Bool):=
 sel ((v0.length:Int) != (v1.length:Int))
  (some false)
  (cutb (α:=Unit) (
   loopN (l_eqUsedS_L1 N v0 v1) N 0) fun t4=>
  some true)
def l_eqCorrection (N:Nat) (v0:Gx.Correction) (v1:Gx.Correction):Option (Bool):=
 sel (v0.mIssue != v1.mIssue)
  (some false)
  (sel (v0.mSlot != v1.mSlot)
   (some false)
   (bnd (l_eqClue N v0.mClue v1.mClue) fun x1=>
   sel (!x1)
    (some false)
    (sel (v0.mTick != v1.mTick)
     (some false)
     (some true))))
def l_eqCorrectionS_L1 (N:Nat) (v0:List (Gx.Correction)) (v1:List (Gx.Correction)) (p1:Int):Option (Sum (Int) (Cut (Unit) (Bool))):=
 sel (decide (p1<(v0.length:Int)))
  (bnd (getI v0 p1) fun x1=>
  bnd (getI v1 p1) fun x2=>
  bnd (l_eqCorrection N x1 x2) fun x3=>
  sel (!x3)
   (some (.inr (.rt (false))))
   (some (.inl (w64 (p1+1)))))
  (some (.inr (.nx ())))
def l_eqCorrectionS (N:Nat) (v0:List (Gx.Correction)) (v1:List (Gx.Correction)):Option (Bool):=
 sel ((v0.length:Int) != (v1.length:Int))
  (some false)
  (cutb (α:=Unit) (
   loopN (l_eqCorrectionS_L1 N v0 v1) N 0) fun t4=>
  some true)
def l_eqEntry (N:Nat) (v0:Gx.Entry) (v1:Gx.Entry):Option (Bool):=
 sel (v0.mPlayer != v1.mPlayer)
  (some false)
  (sel (v0.mIssue != v1.mIssue)
   (some false)
   (sel (v0.mTick != v1.mTick)
    (some false)
    (sel (v0.mFill != v1.mFill)
     (some false)
     (some true))))
def l_eqEntryS_L1 (N:Nat) (v0:List (Gx.Entry)) (v1:List (Gx.Entry)) (p1:Int):Option (Sum (Int) (Cut (Unit) (Bool))):=
 sel (decide (p1<(v0.length:Int)))
  (bnd (getI v0 p1) fun x1=>
  bnd (getI v1 p1) fun x2=>
  bnd (l_eqEntry N x1 x2) fun x3=>
  sel (!x3)
   (some (.inr (.rt (false))))
   (some (.inl (w64 (p1+1)))))
  (some (.inr (.nx ())))
def l_eqEntryS (N:Nat) (v0:List (Gx.Entry)) (v1:List (Gx.Entry)):Option (Bool):=
 sel ((v0.length:Int) != (v1.length:Int))
  (some false)
  (cutb (α:=Unit) (
   loopN (l_eqEntryS_L1 N v0 v1) N 0) fun t4=>
  some true)
def l_eqHouse (N:Nat) (v0:Gx.House) (v1:Gx.House):Option (Bool):=
 bnd (l_eqListedS N v0.mList v1.mList) fun x1=>
 sel (!x1)
  (some false)
  (bnd (l_eqMeaningS N v0.mDict v1.mDict) fun x2=>
  sel (!x2)
   (some false)
   (bnd (l_eqDraft N v0.mDesk v1.mDesk) fun x3=>
   sel (!x3)
    (some false)
    (bnd (l_eqIssueS N v0.mIssues v1.mIssues) fun x4=>
    sel (!x4)
     (some false)
     (bnd (l_eqUsedS N v0.mUses v1.mUses) fun x5=>
     sel (!x5)
      (some false)
      (bnd (l_eqCorrectionS N v0.mCorrections v1.mCorrections) fun x6=>
      sel (!x6)
       (some false)
       (bnd (l_eqEntryS N v0.mEntries v1.mEntries) fun x7=>
       sel (!x7)
        (some false)
        (sel (v0.mNow != v1.mNow)
         (some false)
         (some true))))))))
def l_FnExactIsRecorded (N:Nat) (v0:Gx.House):Option (Bool):=
 bnd (l_szHouse N v0 1048576) fun x1=>
 sel (decide (x1<0))
  (some true)
  (bnd (l_toHouse N v0) fun x2=>
  bnd (s_IsRecorded N x2) fun x3=>
  bnd (l_toHouse N v0) fun x4=>
  bnd (i_IsRecorded N x4) fun x5=>
  sel (x5 != x3)
   (some false)
   (bnd (l_toHouse N v0) fun x6=>
   bnd (l_eqHouse N x4 x6) fun x7=>
   sel (!x7)
    (some false)
    (some true)))
end Lw
end Go.Proofs
