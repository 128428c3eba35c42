/- PRINTED BY gen.py (mine): their contracts. -/
import Derived.Test.YtniibgdokfnomaaGreatAvPfStepWord2
namespace Go.Proofs
open Go Go.Av
set_option maxRecDepth 100000
set_option maxHeartbeats 40000000
set_option linter.unusedVariables false
set_option linter.unusedSimpArgs false
namespace Lw
theorem l_markIssueS_ok (N : Nat) (v0 : List (Gx.Issue)) (v1 : Int) {r : (List (Gx.Issue)) × Int} (h : l_markIssueS N v0 v1 = some r) : Turn Tryz.prog 59 [.sl 0, .d (D.i v1)] [.deep 10 (List.map Gx.Issue.enc v0)] [some (.deep 10 (List.map Gx.Issue.enc r.1))] (.d (D.i r.2)) := by
 refine turn_of_walk Tryz.tok Tryz.mixed Tryz.func59 (by kernel_rfl) rfl fun W => ?_
 unfold l_markIssueS at h
 refine ab0 ?_
 refine W.r_seq ?_
 refine ab0 ?_
 obtain ⟨zt15, h, gt15⟩ := bnd_some h
 refine W.r_cut (fun (t15 : (List (Gx.Issue)) × Int) => ⟨[(1, .d (D.i t15.2))], [(1, some (.deep 10 (List.map Gx.Issue.enc t15.1))), (990, some (.pin [.sl 1]))], 1000⟩) (fun t => t = zt15) ?_ ?_
 ·refine avb ?_
  refine loop_lp (fun (p1 : (List (Gx.Issue)) × Int × Int) => ⟨[(0, .sl 1), (1, .d (D.i p1.2.1)), (5, .d (D.i p1.2.2))], [(1, some (.deep 10 (List.map Gx.Issue.enc p1.1))), (990, some (.pin [.sl 1]))], 1000⟩) h ?_ ?_
  ·exact weak_by
  intro np1 p1 yp1 h hfp1
  unfold l_markIssueS_L1 at h
  refine avb ?_
  refine lns (p1.1.length : Int) ?_
  refine avb ?_
  refine brb h ?_ ?_<;>intro _ h
  ·refine idxp_sel h (fun x1 hx1 h => ?_)
   refine avb ?_
   refine ldp_sel hx1 ?_
   refine avb ?_
   refine idxp_raw (show _ = List.map Gx.Issue.enc (List.set p1.1 (Int.toNat p1.2.2) (⟨p1.2.1, (⟨(⟨x1.mPuzzle.mGrid.mRows, x1.mPuzzle.mGrid.mCols, x1.mPuzzle.mGrid.mCells⟩ : Gx.Grid), x1.mPuzzle.mClues, x1.mPuzzle.mSeals, x1.mPuzzle.mSalt⟩ : Gx.Puzzle), x1.mFill, x1.mOpen, x1.mClose⟩ : Gx.Issue)) by (exact eq_by)) h (fun x2 hx2 h => ?_)
   refine avb ?_
   refine ldp_raw (show _ = List.map Gx.Issue.enc (List.set p1.1 (Int.toNat p1.2.2) (⟨p1.2.1, (⟨(⟨x1.mPuzzle.mGrid.mRows, x1.mPuzzle.mGrid.mCols, x1.mPuzzle.mGrid.mCells⟩ : Gx.Grid), x1.mPuzzle.mClues, x1.mPuzzle.mSeals, x1.mPuzzle.mSalt⟩ : Gx.Puzzle), x1.mFill, x1.mOpen, x1.mClose⟩ : Gx.Issue)) by (exact eq_by)) hx2 ?_
   refine avb ?_
   refine idxp_raw (show _ = List.map Gx.Issue.enc (List.set p1.1 (Int.toNat p1.2.2) (⟨x2.mNumber, (⟨(⟨w64 (p1.2.1 + 1), x2.mPuzzle.mGrid.mCols, x2.mPuzzle.mGrid.mCells⟩ : Gx.Grid), x2.mPuzzle.mClues, x2.mPuzzle.mSeals, x2.mPuzzle.mSalt⟩ : Gx.Puzzle), x2.mFill, x2.mOpen, x2.mClose⟩ : Gx.Issue)) by (exact eq_by)) h (fun x3 hx3 h => ?_)
   refine avb ?_
   refine ldp_raw (show _ = List.map Gx.Issue.enc (List.set p1.1 (Int.toNat p1.2.2) (⟨x2.mNumber, (⟨(⟨w64 (p1.2.1 + 1), x2.mPuzzle.mGrid.mCols, x2.mPuzzle.mGrid.mCells⟩ : Gx.Grid), x2.mPuzzle.mClues, x2.mPuzzle.mSeals, x2.mPuzzle.mSalt⟩ : Gx.Puzzle), x2.mFill, x2.mOpen, x2.mClose⟩ : Gx.Issue)) by (exact eq_by)) hx3 ?_
   refine avb ?_
   refine plb ?_;refine call_sel (E := fun (x : (List UInt8)) => DV.one (D.s x)) h (fun x4 h1 => (l_markText_ok N (w64 ((w64 ((w64 (p1.2.1 + 1)) + 1)) + 1)) h1)) (fun x4 hx4 h => ?_)
   refine avb ?_
   refine idxp_raw (show _ = List.map Gx.Issue.enc (List.set p1.1 (Int.toNat p1.2.2) (⟨x3.mNumber, (⟨(⟨x3.mPuzzle.mGrid.mRows, w64 ((w64 (p1.2.1 + 1)) + 1), x3.mPuzzle.mGrid.mCells⟩ : Gx.Grid), x3.mPuzzle.mClues, x3.mPuzzle.mSeals, x3.mPuzzle.mSalt⟩ : Gx.Puzzle), x3.mFill, x3.mOpen, x3.mClose⟩ : Gx.Issue)) by (exact eq_by)) h (fun x5 hx5 h => ?_)
   refine avb ?_
   refine ldp_raw (show _ = List.map Gx.Issue.enc (List.set p1.1 (Int.toNat p1.2.2) (⟨x3.mNumber, (⟨(⟨x3.mPuzzle.mGrid.mRows, w64 ((w64 (p1.2.1 + 1)) + 1), x3.mPuzzle.mGrid.mCells⟩ : Gx.Grid), x3.mPuzzle.mClues, x3.mPuzzle.mSeals, x3.mPuzzle.mSalt⟩ : Gx.Puzzle), x3.mFill, x3.mOpen, x3.mClose⟩ : Gx.Issue)) by (exact eq_by)) hx5 ?_
   refine avb ?_
   refine idxp_raw (show _ = List.map Gx.Issue.enc (List.set p1.1 (Int.toNat p1.2.2) (⟨x5.mNumber, (⟨(⟨x5.mPuzzle.mGrid.mRows, x5.mPuzzle.mGrid.mCols, x4⟩ : Gx.Grid), x5.mPuzzle.mClues, x5.mPuzzle.mSeals, x5.mPuzzle.mSalt⟩ : Gx.Puzzle), x5.mFill, x5.mOpen, x5.mClose⟩ : Gx.Issue)) by (exact eq_by)) h (fun x6 hx6 h => ?_)
   refine avb ?_
   refine ldp_raw (show _ = List.map Gx.Issue.enc (List.set p1.1 (Int.toNat p1.2.2) (⟨x5.mNumber, (⟨(⟨x5.mPuzzle.mGrid.mRows, x5.mPuzzle.mGrid.mCols, x4⟩ : Gx.Grid), x5.mPuzzle.mClues, x5.mPuzzle.mSeals, x5.mPuzzle.mSalt⟩ : Gx.Puzzle), x5.mFill, x5.mOpen, x5.mClose⟩ : Gx.Issue)) by (exact eq_by)) hx6 ?_
   refine avb ?_
   refine clb ?_;refine ldp_raw (show _ = List.map Gx.Issue.enc (List.set p1.1 (Int.toNat p1.2.2) (⟨x5.mNumber, (⟨(⟨x5.mPuzzle.mGrid.mRows, x5.mPuzzle.mGrid.mCols, x4⟩ : Gx.Grid), x5.mPuzzle.mClues, x5.mPuzzle.mSeals, x5.mPuzzle.mSalt⟩ : Gx.Puzzle), x5.mFill, x5.mOpen, x5.mClose⟩ : Gx.Issue)) by (exact eq_by)) hx6 ?_;refine whb ?_;refine cturn_sel (R := fun (x7 : (List (Gx.Clue)) × Int) => List.map Gx.Clue.enc x7.1) (X := fun (x7 : (List (Gx.Clue)) × Int) => Value.int .i64 x7.2) h (fun x7 h1 => (l_markClueS_ok N x6.mPuzzle.mClues (w64 ((w64 ((w64 ((w64 (p1.2.1 + 1)) + 1)) + 1)) + 1)) h1)) (fun x7 hx7 h => ?_)
   refine avb ?_
   refine idxp_raw (show _ = List.map Gx.Issue.enc (List.set p1.1 (Int.toNat p1.2.2) (⟨x6.mNumber, (⟨(⟨x6.mPuzzle.mGrid.mRows, x6.mPuzzle.mGrid.mCols, x6.mPuzzle.mGrid.mCells⟩ : Gx.Grid), x7.1, x6.mPuzzle.mSeals, x6.mPuzzle.mSalt⟩ : Gx.Puzzle), x6.mFill, x6.mOpen, x6.mClose⟩ : Gx.Issue)) by (exact eq_by)) h (fun x8 hx8 h => ?_)
   refine avb ?_
   refine ldp_raw (show _ = List.map Gx.Issue.enc (List.set p1.1 (Int.toNat p1.2.2) (⟨x6.mNumber, (⟨(⟨x6.mPuzzle.mGrid.mRows, x6.mPuzzle.mGrid.mCols, x6.mPuzzle.mGrid.mCells⟩ : Gx.Grid), x7.1, x6.mPuzzle.mSeals, x6.mPuzzle.mSalt⟩ : Gx.Puzzle), x6.mFill, x6.mOpen, x6.mClose⟩ : Gx.Issue)) by (exact eq_by)) hx8 ?_
   refine avb ?_
   refine clb ?_;refine ldp_raw (show _ = List.map Gx.Issue.enc (List.set p1.1 (Int.toNat p1.2.2) (⟨x6.mNumber, (⟨(⟨x6.mPuzzle.mGrid.mRows, x6.mPuzzle.mGrid.mCols, x6.mPuzzle.mGrid.mCells⟩ : Gx.Grid), x7.1, x6.mPuzzle.mSeals, x6.mPuzzle.mSalt⟩ : Gx.Puzzle), x6.mFill, x6.mOpen, x6.mClose⟩ : Gx.Issue)) by (exact eq_by)) hx8 ?_;refine whb ?_;refine cturn_sel (R := fun (x9 : (List (Int)) × Int) => List.map Gx.encI x9.1) (X := fun (x9 : (List (Int)) × Int) => Value.int .i64 x9.2) h (fun x9 h1 => (l_markIntS_ok N x8.mPuzzle.mSeals x7.2 h1)) (fun x9 hx9 h => ?_)
   refine avb ?_
   refine idxp_raw (show _ = List.map Gx.Issue.enc (List.set p1.1 (Int.toNat p1.2.2) (⟨x8.mNumber, (⟨(⟨x8.mPuzzle.mGrid.mRows, x8.mPuzzle.mGrid.mCols, x8.mPuzzle.mGrid.mCells⟩ : Gx.Grid), x8.mPuzzle.mClues, x9.1, x8.mPuzzle.mSalt⟩ : Gx.Puzzle), x8.mFill, x8.mOpen, x8.mClose⟩ : Gx.Issue)) by (exact eq_by)) h (fun x10 hx10 h => ?_)
   refine avb ?_
   refine ldp_raw (show _ = List.map Gx.Issue.enc (List.set p1.1 (Int.toNat p1.2.2) (⟨x8.mNumber, (⟨(⟨x8.mPuzzle.mGrid.mRows, x8.mPuzzle.mGrid.mCols, x8.mPuzzle.mGrid.mCells⟩ : Gx.Grid), x8.mPuzzle.mClues, x9.1, x8.mPuzzle.mSalt⟩ : Gx.Puzzle), x8.mFill, x8.mOpen, x8.mClose⟩ : Gx.Issue)) by (exact eq_by)) hx10 ?_
   refine avb ?_
   refine plb ?_;refine call_sel (E := fun (x : (List UInt8)) => DV.one (D.s x)) h (fun x11 h1 => (l_markText_ok N (w64 (x9.2 + 1)) h1)) (fun x11 hx11 h => ?_)
   refine avb ?_
   refine idxp_raw (show _ = List.map Gx.Issue.enc (List.set p1.1 (Int.toNat p1.2.2) (⟨x10.mNumber, (⟨(⟨x10.mPuzzle.mGrid.mRows, x10.mPuzzle.mGrid.mCols, x10.mPuzzle.mGrid.mCells⟩ : Gx.Grid), x10.mPuzzle.mClues, x10.mPuzzle.mSeals, x9.2⟩ : Gx.Puzzle), x10.mFill, x10.mOpen, x10.mClose⟩ : Gx.Issue)) by (exact eq_by)) h (fun x12 hx12 h => ?_)
   refine avb ?_
   refine ldp_raw (show _ = List.map Gx.Issue.enc (List.set p1.1 (Int.toNat p1.2.2) (⟨x10.mNumber, (⟨(⟨x10.mPuzzle.mGrid.mRows, x10.mPuzzle.mGrid.mCols, x10.mPuzzle.mGrid.mCells⟩ : Gx.Grid), x10.mPuzzle.mClues, x10.mPuzzle.mSeals, x9.2⟩ : Gx.Puzzle), x10.mFill, x10.mOpen, x10.mClose⟩ : Gx.Issue)) by (exact eq_by)) hx12 ?_
   refine avb ?_
   refine idxp_raw (show _ = List.map Gx.Issue.enc (List.set p1.1 (Int.toNat p1.2.2) (⟨x12.mNumber, (⟨(⟨x12.mPuzzle.mGrid.mRows, x12.mPuzzle.mGrid.mCols, x12.mPuzzle.mGrid.mCells⟩ : Gx.Grid), x12.mPuzzle.mClues, x12.mPuzzle.mSeals, x12.mPuzzle.mSalt⟩ : Gx.Puzzle), x11, x12.mOpen, x12.mClose⟩ : Gx.Issue)) by (exact eq_by)) h (fun x13 hx13 h => ?_)
   refine avb ?_
   refine ldp_raw (show _ = List.map Gx.Issue.enc (List.set p1.1 (Int.toNat p1.2.2) (⟨x12.mNumber, (⟨(⟨x12.mPuzzle.mGrid.mRows, x12.mPuzzle.mGrid.mCols, x12.mPuzzle.mGrid.mCells⟩ : Gx.Grid), x12.mPuzzle.mClues, x12.mPuzzle.mSeals, x12.mPuzzle.mSalt⟩ : Gx.Puzzle), x11, x12.mOpen, x12.mClose⟩ : Gx.Issue)) by (exact eq_by)) hx13 ?_
   refine avb ?_
   refine idxp_raw (show _ = List.map Gx.Issue.enc (List.set p1.1 (Int.toNat p1.2.2) (⟨x13.mNumber, (⟨(⟨x13.mPuzzle.mGrid.mRows, x13.mPuzzle.mGrid.mCols, x13.mPuzzle.mGrid.mCells⟩ : Gx.Grid), x13.mPuzzle.mClues, x13.mPuzzle.mSeals, x13.mPuzzle.mSalt⟩ : Gx.Puzzle), x13.mFill, w64 ((w64 (x9.2 + 1)) + 1), x13.mClose⟩ : Gx.Issue)) by (exact eq_by)) h (fun x14 hx14 h => ?_)
   refine avb ?_
   refine ldp_raw (show _ = List.map Gx.Issue.enc (List.set p1.1 (Int.toNat p1.2.2) (⟨x13.mNumber, (⟨(⟨x13.mPuzzle.mGrid.mRows, x13.mPuzzle.mGrid.mCols, x13.mPuzzle.mGrid.mCells⟩ : Gx.Grid), x13.mPuzzle.mClues, x13.mPuzzle.mSeals, x13.mPuzzle.mSalt⟩ : Gx.Puzzle), x13.mFill, w64 ((w64 (x9.2 + 1)) + 1), x13.mClose⟩ : Gx.Issue)) by (exact eq_by)) hx14 ?_
   refine avb ?_
   exact lbk hfp1 h
  ·have h := finr hfp1 h
   refine cut_at ((p1.1, p1.2.1)) (some_in h) ?_
   exact weak_by
 rintro t15 rfl
 have h : _ = some _ := gt15
 refine avb ?_
 obtain rfl := some_in h
 exact ⟨cons_eq (some_deep (by (exact eq_by))) (rfl), by (exact eq_by)⟩

theorem l_markUsedS_ok (N : Nat) (v0 : List (Gx.Used)) (v1 : Int) {r : (List (Gx.Used)) × Int} (h : l_markUsedS N v0 v1 = some r) : Turn Tryz.prog 60 [.sl 0, .d (D.i v1)] [.deep 2 (List.map Gx.Used.enc v0)] [some (.deep 2 (List.map Gx.Used.enc r.1))] (.d (D.i r.2)) := by
 refine turn_of_walk Tryz.tok Tryz.mixed Tryz.func60 (by kernel_rfl) rfl fun W => ?_
 unfold l_markUsedS at h
 refine ab0 ?_
 refine W.r_seq ?_
 refine ab0 ?_
 obtain ⟨zt4, h, gt4⟩ := bnd_some h
 refine W.r_cut (fun (t4 : (List (Gx.Used)) × Int) => ⟨[(1, .d (D.i t4.2))], [(1, some (.deep 2 (List.map Gx.Used.enc t4.1))), (990, some (.pin [.sl 1]))], 1000⟩) (fun t => t = zt4) ?_ ?_
 ·refine avb ?_
  refine loop_lp (fun (p1 : (List (Gx.Used)) × Int × Int) => ⟨[(0, .sl 1), (1, .d (D.i p1.2.1)), (5, .d (D.i p1.2.2))], [(1, some (.deep 2 (List.map Gx.Used.enc p1.1))), (990, some (.pin [.sl 1]))], 1000⟩) h ?_ ?_
  ·exact weak_by
  intro np1 p1 yp1 h hfp1
  unfold l_markUsedS_L1 at h
  refine avb ?_
  refine lns (p1.1.length : Int) ?_
  refine avb ?_
  refine brb h ?_ ?_<;>intro _ h
  ·refine plb ?_;refine call_sel (E := fun (x : (List UInt8)) => DV.one (D.s x)) h (fun x1 h1 => (l_markText_ok N p1.2.1 h1)) (fun x1 hx1 h => ?_)
   refine avb ?_
   refine idxp_sel h (fun x2 hx2 h => ?_)
   refine avb ?_
   refine ldp_sel hx2 ?_
   refine avb ?_
   refine idxp_raw (show _ = List.map Gx.Used.enc (List.set p1.1 (Int.toNat p1.2.2) (⟨x1, x2.mIssue⟩ : Gx.Used)) by (exact eq_by)) h (fun x3 hx3 h => ?_)
   refine avb ?_
   refine ldp_raw (show _ = List.map Gx.Used.enc (List.set p1.1 (Int.toNat p1.2.2) (⟨x1, x2.mIssue⟩ : Gx.Used)) by (exact eq_by)) hx3 ?_
   refine avb ?_
   exact lbk hfp1 h
  ·have h := finr hfp1 h
   refine cut_at ((p1.1, p1.2.1)) (some_in h) ?_
   exact weak_by
 rintro t4 rfl
 have h : _ = some _ := gt4
 refine avb ?_
 obtain rfl := some_in h
 exact ⟨cons_eq (some_deep (by (exact eq_by))) (rfl), by (exact eq_by)⟩

theorem l_markCorrectionS_ok (N : Nat) (v0 : List (Gx.Correction)) (v1 : Int) {r : (List (Gx.Correction)) × Int} (h : l_markCorrectionS N v0 v1 = some r) : Turn Tryz.prog 61 [.sl 0, .d (D.i v1)] [.deep 5 (List.map Gx.Correction.enc v0)] [some (.deep 5 (List.map Gx.Correction.enc r.1))] (.d (D.i r.2)) := by
 refine turn_of_walk Tryz.tok Tryz.mixed Tryz.func61 (by kernel_rfl) rfl fun W => ?_
 unfold l_markCorrectionS at h
 refine ab0 ?_
 refine W.r_seq ?_
 refine ab0 ?_
 obtain ⟨zt7, h, gt7⟩ := bnd_some h
 refine W.r_cut (fun (t7 : (List (Gx.Correction)) × Int) => ⟨[(1, .d (D.i t7.2))], [(1, some (.deep 5 (List.map Gx.Correction.enc t7.1))), (990, some (.pin [.sl 1]))], 1000⟩) (fun t => t = zt7) ?_ ?_
 ·refine avb ?_
  refine loop_lp (fun (p1 : (List (Gx.Correction)) × Int × Int) => ⟨[(0, .sl 1), (1, .d (D.i p1.2.1)), (5, .d (D.i p1.2.2))], [(1, some (.deep 5 (List.map Gx.Correction.enc p1.1))), (990, some (.pin [.sl 1]))], 1000⟩) h ?_ ?_
  ·exact weak_by
  intro np1 p1 yp1 h hfp1
  unfold l_markCorrectionS_L1 at h
  refine avb ?_
  refine lns (p1.1.length : Int) ?_
  refine avb ?_
  refine brb h ?_ ?_<;>intro _ h
  ·refine idxp_sel h (fun x1 hx1 h => ?_)
   refine avb ?_
   refine ldp_sel hx1 ?_
   refine avb ?_
   refine idxp_raw (show _ = List.map Gx.Correction.enc (List.set p1.1 (Int.toNat p1.2.2) (⟨p1.2.1, x1.mSlot, (⟨x1.mClue.mSense, x1.mClue.mPlay⟩ : Gx.Clue), x1.mTick⟩ : Gx.Correction)) by (exact eq_by)) h (fun x2 hx2 h => ?_)
   refine avb ?_
   refine ldp_raw (show _ = List.map Gx.Correction.enc (List.set p1.1 (Int.toNat p1.2.2) (⟨p1.2.1, x1.mSlot, (⟨x1.mClue.mSense, x1.mClue.mPlay⟩ : Gx.Clue), x1.mTick⟩ : Gx.Correction)) by (exact eq_by)) hx2 ?_
   refine avb ?_
   refine idxp_raw (show _ = List.map Gx.Correction.enc (List.set p1.1 (Int.toNat p1.2.2) (⟨x2.mIssue, w64 (p1.2.1 + 1), (⟨x2.mClue.mSense, x2.mClue.mPlay⟩ : Gx.Clue), x2.mTick⟩ : Gx.Correction)) by (exact eq_by)) h (fun x3 hx3 h => ?_)
   refine avb ?_
   refine ldp_raw (show _ = List.map Gx.Correction.enc (List.set p1.1 (Int.toNat p1.2.2) (⟨x2.mIssue, w64 (p1.2.1 + 1), (⟨x2.mClue.mSense, x2.mClue.mPlay⟩ : Gx.Clue), x2.mTick⟩ : Gx.Correction)) by (exact eq_by)) hx3 ?_
   refine avb ?_
   refine idxp_raw (show _ = List.map Gx.Correction.enc (List.set p1.1 (Int.toNat p1.2.2) (⟨x3.mIssue, x3.mSlot, (⟨w64 ((w64 (p1.2.1 + 1)) + 1), x3.mClue.mPlay⟩ : Gx.Clue), x3.mTick⟩ : Gx.Correction)) by (exact eq_by)) h (fun x4 hx4 h => ?_)
   refine avb ?_
   refine ldp_raw (show _ = List.map Gx.Correction.enc (List.set p1.1 (Int.toNat p1.2.2) (⟨x3.mIssue, x3.mSlot, (⟨w64 ((w64 (p1.2.1 + 1)) + 1), x3.mClue.mPlay⟩ : Gx.Clue), x3.mTick⟩ : Gx.Correction)) by (exact eq_by)) hx4 ?_
   refine avb ?_
   refine clb ?_;refine ldp_raw (show _ = List.map Gx.Correction.enc (List.set p1.1 (Int.toNat p1.2.2) (⟨x3.mIssue, x3.mSlot, (⟨w64 ((w64 (p1.2.1 + 1)) + 1), x3.mClue.mPlay⟩ : Gx.Clue), x3.mTick⟩ : Gx.Correction)) by (exact eq_by)) hx4 ?_;refine whb ?_;refine cturn_sel (R := fun (x5 : (List (Gx.Step)) × Int) => List.map Gx.Step.enc x5.1) (X := fun (x5 : (List (Gx.Step)) × Int) => Value.int .i64 x5.2) h (fun x5 h1 => (l_markStepS_ok N x4.mClue.mPlay (w64 ((w64 ((w64 (p1.2.1 + 1)) + 1)) + 1)) h1)) (fun x5 hx5 h => ?_)
   refine avb ?_
   refine idxp_raw (show _ = List.map Gx.Correction.enc (List.set p1.1 (Int.toNat p1.2.2) (⟨x4.mIssue, x4.mSlot, (⟨x4.mClue.mSense, x5.1⟩ : Gx.Clue), x4.mTick⟩ : Gx.Correction)) by (exact eq_by)) h (fun x6 hx6 h => ?_)
   refine avb ?_
   refine ldp_raw (show _ = List.map Gx.Correction.enc (List.set p1.1 (Int.toNat p1.2.2) (⟨x4.mIssue, x4.mSlot, (⟨x4.mClue.mSense, x5.1⟩ : Gx.Clue), x4.mTick⟩ : Gx.Correction)) by (exact eq_by)) hx6 ?_
   refine avb ?_
   exact lbk hfp1 h
  ·have h := finr hfp1 h
   refine cut_at ((p1.1, p1.2.1)) (some_in h) ?_
   exact weak_by
 rintro t7 rfl
 have h : _ = some _ := gt7
 refine avb ?_
 obtain rfl := some_in h
 exact ⟨cons_eq (some_deep (by (exact eq_by))) (rfl), by (exact eq_by)⟩

theorem l_markEntryS_ok (N : Nat) (v0 : List (Gx.Entry)) (v1 : Int) {r : (List (Gx.Entry)) × Int} (h : l_markEntryS N v0 v1 = some r) : Turn Tryz.prog 62 [.sl 0, .d (D.i v1)] [.deep 4 (List.map Gx.Entry.enc v0)] [some (.deep 4 (List.map Gx.Entry.enc r.1))] (.d (D.i r.2)) := by
 refine turn_of_walk Tryz.tok Tryz.mixed Tryz.func62 (by kernel_rfl) rfl fun W => ?_
 unfold l_markEntryS at h
 refine ab0 ?_
 refine W.r_seq ?_
 refine ab0 ?_
 obtain ⟨zt6, h, gt6⟩ := bnd_some h
 refine W.r_cut (fun (t6 : (List (Gx.Entry)) × Int) => ⟨[(1, .d (D.i t6.2))], [(1, some (.deep 4 (List.map Gx.Entry.enc t6.1))), (990, some (.pin [.sl 1]))], 1000⟩) (fun t => t = zt6) ?_ ?_
 ·refine avb ?_
  refine loop_lp (fun (p1 : (List (Gx.Entry)) × Int × Int) => ⟨[(0, .sl 1), (1, .d (D.i p1.2.1)), (5, .d (D.i p1.2.2))], [(1, some (.deep 4 (List.map Gx.Entry.enc p1.1))), (990, some (.pin [.sl 1]))], 1000⟩) h ?_ ?_
  ·exact weak_by
  intro np1 p1 yp1 h hfp1
  unfold l_markEntryS_L1 at h
  refine avb ?_
  refine lns (p1.1.length : Int) ?_
  refine avb ?_
  refine brb h ?_ ?_<;>intro _ h
  ·refine idxp_sel h (fun x1 hx1 h => ?_)
   refine avb ?_
   refine ldp_sel hx1 ?_
   refine avb ?_
   refine idxp_raw (show _ = List.map Gx.Entry.enc (List.set p1.1 (Int.toNat p1.2.2) (⟨p1.2.1, x1.mIssue, x1.mTick, x1.mFill⟩ : Gx.Entry)) by (exact eq_by)) h (fun x2 hx2 h => ?_)
   refine avb ?_
   refine ldp_raw (show _ = List.map Gx.Entry.enc (List.set p1.1 (Int.toNat p1.2.2) (⟨p1.2.1, x1.mIssue, x1.mTick, x1.mFill⟩ : Gx.Entry)) by (exact eq_by)) hx2 ?_
   refine avb ?_
   refine idxp_raw (show _ = List.map Gx.Entry.enc (List.set p1.1 (Int.toNat p1.2.2) (⟨x2.mPlayer, w64 (p1.2.1 + 1), x2.mTick, x2.mFill⟩ : Gx.Entry)) by (exact eq_by)) h (fun x3 hx3 h => ?_)
   refine avb ?_
   refine ldp_raw (show _ = List.map Gx.Entry.enc (List.set p1.1 (Int.toNat p1.2.2) (⟨x2.mPlayer, w64 (p1.2.1 + 1), x2.mTick, x2.mFill⟩ : Gx.Entry)) by (exact eq_by)) hx3 ?_
   refine avb ?_
   refine plb ?_;refine call_sel (E := fun (x : (List UInt8)) => DV.one (D.s x)) h (fun x4 h1 => (l_markText_ok N (w64 ((w64 ((w64 (p1.2.1 + 1)) + 1)) + 1)) h1)) (fun x4 hx4 h => ?_)
   refine avb ?_
   refine idxp_raw (show _ = List.map Gx.Entry.enc (List.set p1.1 (Int.toNat p1.2.2) (⟨x3.mPlayer, x3.mIssue, w64 ((w64 (p1.2.1 + 1)) + 1), x3.mFill⟩ : Gx.Entry)) by (exact eq_by)) h (fun x5 hx5 h => ?_)
   refine avb ?_
   refine ldp_raw (show _ = List.map Gx.Entry.enc (List.set p1.1 (Int.toNat p1.2.2) (⟨x3.mPlayer, x3.mIssue, w64 ((w64 (p1.2.1 + 1)) + 1), x3.mFill⟩ : Gx.Entry)) by (exact eq_by)) hx5 ?_
   refine avb ?_
   exact lbk hfp1 h
  ·have h := finr hfp1 h
   refine cut_at ((p1.1, p1.2.1)) (some_in h) ?_
   exact weak_by
 rintro t6 rfl
 have h : _ = some _ := gt6
 refine avb ?_
 obtain rfl := some_in h
 exact ⟨cons_eq (some_deep (by (exact eq_by))) (rfl), by (exact eq_by)⟩

theorem l_markHouse_ok (N : Nat) (v0 : Gx.House) (v1 : Int) {r : (List (Gx.Listed)) × (List (Gx.Meaning)) × (List (Gx.Clue)) × (List (Gx.Issue)) × (List (Gx.Used)) × (List (Gx.Correction)) × (List (Gx.Entry)) × Int} (h : l_markHouse N v0 v1 = some r) : Turn Tryz.prog 18 [.agg [.sl 0, .sl 1, .d (D.i v0.mDesk.mGrid.mRows), .d (D.i v0.mDesk.mGrid.mCols), .d (D.s v0.mDesk.mGrid.mCells), .d (D.s v0.mDesk.mFill), .sl 2, .d (D.i v0.mDesk.mVersion), .sl 3, .sl 4, .sl 5, .sl 6, .d (D.i v0.mNow)], .d (D.i v1)] [.deep 4 (List.map Gx.Listed.enc v0.mList), .deep 2 (List.map Gx.Meaning.enc v0.mDict), .deep 2 (List.map Gx.Clue.enc v0.mDesk.mClues), .deep 10 (List.map Gx.Issue.enc v0.mIssues), .deep 2 (List.map Gx.Used.enc v0.mUses), .deep 5 (List.map Gx.Correction.enc v0.mCorrections), .deep 4 (List.map Gx.Entry.enc v0.mEntries)] [some (.deep 4 (List.map Gx.Listed.enc r.1)), some (.deep 2 (List.map Gx.Meaning.enc r.2.1)), some (.deep 2 (List.map Gx.Clue.enc r.2.2.1)), some (.deep 10 (List.map Gx.Issue.enc r.2.2.2.1)), some (.deep 2 (List.map Gx.Used.enc r.2.2.2.2.1)), some (.deep 5 (List.map Gx.Correction.enc r.2.2.2.2.2.1)), some (.deep 4 (List.map Gx.Entry.enc r.2.2.2.2.2.2.1))] (.d (D.i r.2.2.2.2.2.2.2)) := by
 refine turn_of_walk Tryz.tok Tryz.mixed Tryz.func18 (by kernel_rfl) rfl fun W => ?_
 unfold l_markHouse at h
 refine avb ?_
 refine qtb ?_;refine turn_sel (O := fun (x1 : (List (Gx.Listed)) × Int) => [some (.deep 4 (List.map Gx.Listed.enc x1.1))]) (V := fun (x1 : (List (Gx.Listed)) × Int) => .d (D.i x1.2)) h trivial (fun x1 h1 => (l_markListedS_ok N v0.mList v1 h1)) (fun x1 hx1 h => ?_)
 refine avb ?_
 refine qtb ?_;refine turn_sel (O := fun (x2 : (List (Gx.Meaning)) × Int) => [some (.deep 2 (List.map Gx.Meaning.enc x2.1))]) (V := fun (x2 : (List (Gx.Meaning)) × Int) => .d (D.i x2.2)) h trivial (fun x2 h1 => (l_markMeaningS_ok N v0.mDict x1.2 h1)) (fun x2 hx2 h => ?_)
 refine avb ?_
 refine qtb ?_;refine turn_sel (O := fun (x3 : (List (Gx.Clue)) × Int) => [some (.deep 2 (List.map Gx.Clue.enc x3.1))]) (V := fun (x3 : (List (Gx.Clue)) × Int) => .d (D.i x3.2)) h trivial (fun x3 h1 => (l_markDraft_ok N v0.mDesk x2.2 h1)) (fun x3 hx3 h => ?_)
 refine avb ?_
 refine qtb ?_;refine turn_sel (O := fun (x4 : (List (Gx.Issue)) × Int) => [some (.deep 10 (List.map Gx.Issue.enc x4.1))]) (V := fun (x4 : (List (Gx.Issue)) × Int) => .d (D.i x4.2)) h trivial (fun x4 h1 => (l_markIssueS_ok N v0.mIssues x3.2 h1)) (fun x4 hx4 h => ?_)
 refine avb ?_
 refine qtb ?_;refine turn_sel (O := fun (x5 : (List (Gx.Used)) × Int) => [some (.deep 2 (List.map Gx.Used.enc x5.1))]) (V := fun (x5 : (List (Gx.Used)) × Int) => .d (D.i x5.2)) h trivial (fun x5 h1 => (l_markUsedS_ok N v0.mUses x4.2 h1)) (fun x5 hx5 h => ?_)
 refine avb ?_
 refine qtb ?_;refine turn_sel (O := fun (x6 : (List (Gx.Correction)) × Int) => [some (.deep 5 (List.map Gx.Correction.enc x6.1))]) (V := fun (x6 : (List (Gx.Correction)) × Int) => .d (D.i x6.2)) h trivial (fun x6 h1 => (l_markCorrectionS_ok N v0.mCorrections x5.2 h1)) (fun x6 hx6 h => ?_)
 refine avb ?_
 refine qtb ?_;refine turn_sel (O := fun (x7 : (List (Gx.Entry)) × Int) => [some (.deep 4 (List.map Gx.Entry.enc x7.1))]) (V := fun (x7 : (List (Gx.Entry)) × Int) => .d (D.i x7.2)) h trivial (fun x7 h1 => (l_markEntryS_ok N v0.mEntries x6.2 h1)) (fun x7 hx7 h => ?_)
 refine avb ?_
 obtain rfl := some_in h
 exact ⟨cons_eq (some_deep (by (exact eq_by))) (cons_eq (some_deep (by (exact eq_by))) (cons_eq (some_deep (by (exact eq_by))) (cons_eq (some_deep (by (exact eq_by))) (cons_eq (some_deep (by (exact eq_by))) (cons_eq (some_deep (by (exact eq_by))) (cons_eq (some_deep (by (exact eq_by))) (rfl))))))), by (exact eq_by)⟩

theorem l_heldListedS_ok (N : Nat) (v0 : List (Gx.Listed)) (v1 : Int) {r : Int} (h : l_heldListedS N v0 v1 = some r) : Pure Tryz.prog 63 [DV.one (D.sl 4 (List.map Gx.Listed.enc v0)), DV.one (D.i v1)] (DV.one (D.i r)) := by
 refine pure_of_walk Tryz.tok Tryz.mixed Tryz.func63 (by kernel_rfl) fun W => ?_
 unfold l_heldListedS at h
 refine ab0 ?_
 refine W.r_seq ?_
 refine ab0 ?_
 obtain ⟨zt6, h, gt6⟩ := cutb_some h
 refine W.r_cut (fun (t6 : Int) => ⟨[(1, .d (D.i t6))], [], 1000⟩) (fun t => .nx t = zt6) ?_ ?_
 ·refine avb ?_
  refine loop_lp (fun (p1 : Int × Int) => ⟨[(0, .d (D.sl 4 (List.map Gx.Listed.enc v0))), (1, .d (D.i p1.1)), (5, .d (D.i p1.2))], [], 1000⟩) h ?_ ?_
  ·exact weak_by
  intro np1 p1 yp1 h hfp1
  unfold l_heldListedS_L1 at h
  refine avb ?_
  refine lns (v0.length : Int) ?_
  refine avb ?_
  refine brb h ?_ ?_<;>intro _ h
  ·refine idx_sel h (fun x1 hx1 h => ?_)
   refine avb ?_
   refine plb ?_;refine call_sel (E := fun (x : (List UInt8)) => DV.one (D.s x)) h (fun x2 h1 => (l_markText_ok N p1.1 h1)) (fun x2 hx2 h => ?_)
   refine avb ?_
   refine brb h ?_ ?_<;>intro _ h
   ·have h := finr hfp1 h
    have h := cutr gt6 h
    cases h;exact eq_by
   ·refine idx_sel h (fun x3 hx3 h => ?_)
    refine avb ?_
    refine brb h ?_ ?_<;>intro _ h
    ·have h := finr hfp1 h
     have h := cutr gt6 h
     cases h;exact eq_by
    ·refine idx_sel h (fun x4 hx4 h => ?_)
     refine avb ?_
     refine brb h ?_ ?_<;>intro _ h
     ·have h := finr hfp1 h
      have h := cutr gt6 h
      cases h;exact eq_by
     ·refine idx_sel h (fun x5 hx5 h => ?_)
      refine avb ?_
      refine brb h ?_ ?_<;>intro _ h
      ·have h := finr hfp1 h
       have h := cutr gt6 h
       cases h;exact eq_by
      ·exact lbk hfp1 h
  ·have h := finr hfp1 h
   refine cut_at (p1.1) (some_in h) ?_
   exact weak_by
 rintro t6 rfl
 have h : _ = some _ := gt6
 refine avb ?_
 cases h;exact eq_by

theorem l_heldMeaningS_ok (N : Nat) (v0 : List (Gx.Meaning)) (v1 : Int) {r : Int} (h : l_heldMeaningS N v0 v1 = some r) : Pure Tryz.prog 64 [DV.one (D.sl 2 (List.map Gx.Meaning.enc v0)), DV.one (D.i v1)] (DV.one (D.i r)) := by
 refine pure_of_walk Tryz.tok Tryz.mixed Tryz.func64 (by kernel_rfl) fun W => ?_
 unfold l_heldMeaningS at h
 refine ab0 ?_
 refine W.r_seq ?_
 refine ab0 ?_
 obtain ⟨zt4, h, gt4⟩ := cutb_some h
 refine W.r_cut (fun (t4 : Int) => ⟨[(1, .d (D.i t4))], [], 1000⟩) (fun t => .nx t = zt4) ?_ ?_
 ·refine avb ?_
  refine loop_lp (fun (p1 : Int × Int) => ⟨[(0, .d (D.sl 2 (List.map Gx.Meaning.enc v0))), (1, .d (D.i p1.1)), (5, .d (D.i p1.2))], [], 1000⟩) h ?_ ?_
  ·exact weak_by
  intro np1 p1 yp1 h hfp1
  unfold l_heldMeaningS_L1 at h
  refine avb ?_
  refine lns (v0.length : Int) ?_
  refine avb ?_
  refine brb h ?_ ?_<;>intro _ h
  ·refine idx_sel h (fun x1 hx1 h => ?_)
   refine avb ?_
   refine plb ?_;refine call_sel (E := fun (x : (List UInt8)) => DV.one (D.s x)) h (fun x2 h1 => (l_markText_ok N p1.1 h1)) (fun x2 hx2 h => ?_)
   refine avb ?_
   refine brb h ?_ ?_<;>intro _ h
   ·have h := finr hfp1 h
    have h := cutr gt4 h
    cases h;exact eq_by
   ·refine idx_sel h (fun x3 hx3 h => ?_)
    refine avb ?_
    refine brb h ?_ ?_<;>intro _ h
    ·have h := finr hfp1 h
     have h := cutr gt4 h
     cases h;exact eq_by
    ·exact lbk hfp1 h
  ·have h := finr hfp1 h
   refine cut_at (p1.1) (some_in h) ?_
   exact weak_by
 rintro t4 rfl
 have h : _ = some _ := gt4
 refine avb ?_
 cases h;exact eq_by

theorem l_heldStepS_ok (N : Nat) (v0 : List (Gx.Step)) (v1 : Int) {r : Int} (h : l_heldStepS N v0 v1 = some r) : Pure Tryz.prog 137 [DV.one (D.sl 4 (List.map Gx.Step.enc v0)), DV.one (D.i v1)] (DV.one (D.i r)) := by
 refine pure_of_walk Tryz.tok Tryz.mixed Tryz.func137 (by kernel_rfl) fun W => ?_
 unfold l_heldStepS at h
 refine ab0 ?_
 refine W.r_seq ?_
 refine ab0 ?_
 obtain ⟨zt6, h, gt6⟩ := cutb_some h
 refine W.r_cut (fun (t6 : Int) => ⟨[(1, .d (D.i t6))], [], 1000⟩) (fun t => .nx t = zt6) ?_ ?_
 ·refine avb ?_
  refine loop_lp (fun (p1 : Int × Int) => ⟨[(0, .d (D.sl 4 (List.map Gx.Step.enc v0))), (1, .d (D.i p1.1)), (5, .d (D.i p1.2))], [], 1000⟩) h ?_ ?_
  ·exact weak_by
  intro np1 p1 yp1 h hfp1
  unfold l_heldStepS_L1 at h
  refine avb ?_
  refine lns (v0.length : Int) ?_
  refine avb ?_
  refine brb h ?_ ?_<;>intro _ h
  ·refine idx_sel h (fun x1 hx1 h => ?_)
   refine avb ?_
   refine brb h ?_ ?_<;>intro _ h
   ·have h := finr hfp1 h
    have h := cutr gt6 h
    cases h;exact eq_by
   ·refine idx_sel h (fun x2 hx2 h => ?_)
    refine avb ?_
    refine plb ?_;refine call_sel (E := fun (x : (List UInt8)) => DV.one (D.s x)) h (fun x3 h1 => (l_markText_ok N (w64 (p1.1 + 1)) h1)) (fun x3 hx3 h => ?_)
    refine avb ?_
    refine brb h ?_ ?_<;>intro _ h
    ·have h := finr hfp1 h
     have h := cutr gt6 h
     cases h;exact eq_by
    ·refine idx_sel h (fun x4 hx4 h => ?_)
     refine avb ?_
     refine brb h ?_ ?_<;>intro _ h
     ·have h := finr hfp1 h
      have h := cutr gt6 h
      cases h;exact eq_by
     ·refine idx_sel h (fun x5 hx5 h => ?_)
      refine avb ?_
      refine brb h ?_ ?_<;>intro _ h
      ·have h := finr hfp1 h
       have h := cutr gt6 h
       cases h;exact eq_by
      ·exact lbk hfp1 h
  ·have h := finr hfp1 h
   refine cut_at (p1.1) (some_in h) ?_
   exact weak_by
 rintro t6 rfl
 have h : _ = some _ := gt6
 refine avb ?_
 cases h;exact eq_by

theorem l_heldClueS_ok (N : Nat) (v0 : List (Gx.Clue)) (v1 : Int) {r : Int} (h : l_heldClueS N v0 v1 = some r) : Pure Tryz.prog 135 [DV.one (D.sl 2 (List.map Gx.Clue.enc v0)), DV.one (D.i v1)] (DV.one (D.i r)) := by
 refine pure_of_walk Tryz.tok Tryz.mixed Tryz.func135 (by kernel_rfl) fun W => ?_
 unfold l_heldClueS at h
 refine ab0 ?_
 refine W.r_seq ?_
 refine ab0 ?_
 obtain ⟨zt4, h, gt4⟩ := cutb_some h
 refine W.r_cut (fun (t4 : Int) => ⟨[(1, .d (D.i t4))], [], 1000⟩) (fun t => .nx t = zt4) ?_ ?_
 ·refine avb ?_
  refine loop_lp (fun (p1 : Int × Int) => ⟨[(0, .d (D.sl 2 (List.map Gx.Clue.enc v0))), (1, .d (D.i p1.1)), (5, .d (D.i p1.2))], [], 1000⟩) h ?_ ?_
  ·exact weak_by
  intro np1 p1 yp1 h hfp1
  unfold l_heldClueS_L1 at h
  refine avb ?_
  refine lns (v0.length : Int) ?_
  refine avb ?_
  refine brb h ?_ ?_<;>intro _ h
  ·refine idx_sel h (fun x1 hx1 h => ?_)
   refine avb ?_
   refine brb h ?_ ?_<;>intro _ h
   ·have h := finr hfp1 h
    have h := cutr gt4 h
    cases h;exact eq_by
   ·refine idx_sel h (fun x2 hx2 h => ?_)
    refine avb ?_
    refine plb ?_;refine call_sel (E := fun (x : Int) => DV.one (D.i x)) h (fun x3 h1 => (l_heldStepS_ok N x2.mPlay (w64 (p1.1 + 1)) h1)) (fun x3 hx3 h => ?_)
    refine avb ?_
    refine brb h ?_ ?_<;>intro _ h
    ·have h := finr hfp1 h
     have h := cutr gt4 h
     cases h;exact eq_by
    ·exact lbk hfp1 h
  ·have h := finr hfp1 h
   refine cut_at (p1.1) (some_in h) ?_
   exact weak_by
 rintro t4 rfl
 have h : _ = some _ := gt4
 refine avb ?_
 cases h;exact eq_by

theorem l_heldDraft_ok (N : Nat) (v0 : Gx.Draft) (v1 : Int) {r : Int} (h : l_heldDraft N v0 v1 = some r) : Pure Tryz.prog 65 [DV.agg (Gx.Draft.enc v0), DV.one (D.i v1)] (DV.one (D.i r)) := by
 refine pure_of_walk Tryz.tok Tryz.mixed Tryz.func65 (by kernel_rfl) fun W => ?_
 unfold l_heldDraft at h
 refine avb ?_
 refine plb ?_;refine call_sel (E := fun (x : Int) => DV.one (D.i x)) h (fun x1 h1 => (l_heldClueS_ok N v0.mClues v1 h1)) (fun x1 hx1 h => ?_)
 refine avb ?_
 refine brb h ?_ ?_<;>intro _ h
 ·cases h;exact eq_by
 ·cases h;exact eq_by

theorem l_heldIntS_ok (N : Nat) (v0 : List (Int)) (v1 : Int) {r : Int} (h : l_heldIntS N v0 v1 = some r) : Pure Tryz.prog 136 [DV.one (D.sl 1 (List.map Gx.encI v0)), DV.one (D.i v1)] (DV.one (D.i r)) := by
 refine pure_of_walk Tryz.tok Tryz.mixed Tryz.func136 (by kernel_rfl) fun W => ?_
 unfold l_heldIntS at h
 refine ab0 ?_
 refine W.r_seq ?_
 refine ab0 ?_
 obtain ⟨zt2, h, gt2⟩ := cutb_some h
 refine W.r_cut (fun (t2 : Int) => ⟨[(1, .d (D.i t2))], [], 1000⟩) (fun t => .nx t = zt2) ?_ ?_
 ·refine avb ?_
  refine loop_lp (fun (p1 : Int × Int) => ⟨[(0, .d (D.sl 1 (List.map Gx.encI v0))), (1, .d (D.i p1.1)), (5, .d (D.i p1.2))], [], 1000⟩) h ?_ ?_
  ·exact weak_by
  intro np1 p1 yp1 h hfp1
  unfold l_heldIntS_L1 at h
  refine avb ?_
  refine lns (v0.length : Int) ?_
  refine avb ?_
  refine brb h ?_ ?_<;>intro _ h
  ·refine idx_sel h (fun x1 hx1 h => ?_)
   refine avb ?_
   refine brb h ?_ ?_<;>intro _ h
   ·have h := finr hfp1 h
    have h := cutr gt2 h
    cases h;exact eq_by
   ·exact lbk hfp1 h
  ·have h := finr hfp1 h
   refine cut_at (p1.1) (some_in h) ?_
   exact weak_by
 rintro t2 rfl
 have h : _ = some _ := gt2
 refine avb ?_
 cases h;exact eq_by

theorem l_heldIssueS_ok (N : Nat) (v0 : List (Gx.Issue)) (v1 : Int) {r : Int} (h : l_heldIssueS N v0 v1 = some r) : Pure Tryz.prog 66 [DV.one (D.sl 10 (List.map Gx.Issue.enc v0)), DV.one (D.i v1)] (DV.one (D.i r)) := by
 refine pure_of_walk Tryz.tok Tryz.mixed Tryz.func66 (by kernel_rfl) fun W => ?_
 unfold l_heldIssueS at h
 refine ab0 ?_
 refine W.r_seq ?_
 refine ab0 ?_
 obtain ⟨zt15, h, gt15⟩ := cutb_some h
 refine W.r_cut (fun (t15 : Int) => ⟨[(1, .d (D.i t15))], [], 1000⟩) (fun t => .nx t = zt15) ?_ ?_
 ·refine avb ?_
  refine loop_lp (fun (p1 : Int × Int) => ⟨[(0, .d (D.sl 10 (List.map Gx.Issue.enc v0))), (1, .d (D.i p1.1)), (5, .d (D.i p1.2))], [], 1000⟩) h ?_ ?_
  ·exact weak_by
  intro np1 p1 yp1 h hfp1
  unfold l_heldIssueS_L1 at h
  refine avb ?_
  refine lns (v0.length : Int) ?_
  refine avb ?_
  refine brb h ?_ ?_<;>intro _ h
  ·refine idx_sel h (fun x1 hx1 h => ?_)
   refine avb ?_
   refine brb h ?_ ?_<;>intro _ h
   ·have h := finr hfp1 h
    have h := cutr gt15 h
    cases h;exact eq_by
   ·refine idx_sel h (fun x2 hx2 h => ?_)
    refine avb ?_
    refine brb h ?_ ?_<;>intro _ h
    ·have h := finr hfp1 h
     have h := cutr gt15 h
     cases h;exact eq_by
    ·refine idx_sel h (fun x3 hx3 h => ?_)
     refine avb ?_
     refine brb h ?_ ?_<;>intro _ h
     ·have h := finr hfp1 h
      have h := cutr gt15 h
      cases h;exact eq_by
     ·refine idx_sel h (fun x4 hx4 h => ?_)
      refine avb ?_
      refine plb ?_;refine call_sel (E := fun (x : (List UInt8)) => DV.one (D.s x)) h (fun x5 h1 => (l_markText_ok N (w64 ((w64 ((w64 (p1.1 + 1)) + 1)) + 1)) h1)) (fun x5 hx5 h => ?_)
      refine avb ?_
      refine brb h ?_ ?_<;>intro _ h
      ·have h := finr hfp1 h
       have h := cutr gt15 h
       cases h;exact eq_by
      ·refine idx_sel h (fun x6 hx6 h => ?_)
       refine avb ?_
       refine plb ?_;refine call_sel (E := fun (x : Int) => DV.one (D.i x)) h (fun x7 h1 => (l_heldClueS_ok N x6.mPuzzle.mClues (w64 ((w64 ((w64 ((w64 (p1.1 + 1)) + 1)) + 1)) + 1)) h1)) (fun x7 hx7 h => ?_)
       refine avb ?_
       refine brb h ?_ ?_<;>intro _ h
       ·have h := finr hfp1 h
        have h := cutr gt15 h
        cases h;exact eq_by
       ·refine idx_sel h (fun x8 hx8 h => ?_)
        refine avb ?_
        refine plb ?_;refine call_sel (E := fun (x : Int) => DV.one (D.i x)) h (fun x9 h1 => (l_heldIntS_ok N x8.mPuzzle.mSeals x7 h1)) (fun x9 hx9 h => ?_)
        refine avb ?_
        refine brb h ?_ ?_<;>intro _ h
        ·have h := finr hfp1 h
         have h := cutr gt15 h
         cases h;exact eq_by
        ·refine idx_sel h (fun x10 hx10 h => ?_)
         refine avb ?_
         refine brb h ?_ ?_<;>intro _ h
         ·have h := finr hfp1 h
          have h := cutr gt15 h
          cases h;exact eq_by
         ·refine idx_sel h (fun x11 hx11 h => ?_)
          refine avb ?_
          refine plb ?_;refine call_sel (E := fun (x : (List UInt8)) => DV.one (D.s x)) h (fun x12 h1 => (l_markText_ok N (w64 (x9 + 1)) h1)) (fun x12 hx12 h => ?_)
          refine avb ?_
          refine brb h ?_ ?_<;>intro _ h
          ·have h := finr hfp1 h
           have h := cutr gt15 h
           cases h;exact eq_by
          ·refine idx_sel h (fun x13 hx13 h => ?_)
           refine avb ?_
           refine brb h ?_ ?_<;>intro _ h
           ·have h := finr hfp1 h
            have h := cutr gt15 h
            cases h;exact eq_by
           ·refine idx_sel h (fun x14 hx14 h => ?_)
            refine avb ?_
            refine brb h ?_ ?_<;>intro _ h
            ·have h := finr hfp1 h
             have h := cutr gt15 h
             cases h;exact eq_by
            ·exact lbk hfp1 h
  ·have h := finr hfp1 h
   refine cut_at (p1.1) (some_in h) ?_
   exact weak_by
 rintro t15 rfl
 have h : _ = some _ := gt15
 refine avb ?_
 cases h;exact eq_by

theorem l_heldUsedS_ok (N : Nat) (v0 : List (Gx.Used)) (v1 : Int) {r : Int} (h : l_heldUsedS N v0 v1 = some r) : Pure Tryz.prog 67 [DV.one (D.sl 2 (List.map Gx.Used.enc v0)), DV.one (D.i v1)] (DV.one (D.i r)) := by
 refine pure_of_walk Tryz.tok Tryz.mixed Tryz.func67 (by kernel_rfl) fun W => ?_
 unfold l_heldUsedS at h
 refine ab0 ?_
 refine W.r_seq ?_
 refine ab0 ?_
 obtain ⟨zt4, h, gt4⟩ := cutb_some h
 refine W.r_cut (fun (t4 : Int) => ⟨[(1, .d (D.i t4))], [], 1000⟩) (fun t => .nx t = zt4) ?_ ?_
 ·refine avb ?_
  refine loop_lp (fun (p1 : Int × Int) => ⟨[(0, .d (D.sl 2 (List.map Gx.Used.enc v0))), (1, .d (D.i p1.1)), (5, .d (D.i p1.2))], [], 1000⟩) h ?_ ?_
  ·exact weak_by
  intro np1 p1 yp1 h hfp1
  unfold l_heldUsedS_L1 at h
  refine avb ?_
  refine lns (v0.length : Int) ?_
  refine avb ?_
  refine brb h ?_ ?_<;>intro _ h
  ·refine idx_sel h (fun x1 hx1 h => ?_)
   refine avb ?_
   refine plb ?_;refine call_sel (E := fun (x : (List UInt8)) => DV.one (D.s x)) h (fun x2 h1 => (l_markText_ok N p1.1 h1)) (fun x2 hx2 h => ?_)
   refine avb ?_
   refine brb h ?_ ?_<;>intro _ h
   ·have h := finr hfp1 h
    have h := cutr gt4 h
    cases h;exact eq_by
   ·refine idx_sel h (fun x3 hx3 h => ?_)
    refine avb ?_
    refine brb h ?_ ?_<;>intro _ h
    ·have h := finr hfp1 h
     have h := cutr gt4 h
     cases h;exact eq_by
    ·exact lbk hfp1 h
  ·have h := finr hfp1 h
   refine cut_at (p1.1) (some_in h) ?_
   exact weak_by
 rintro t4 rfl
 have h : _ = some _ := gt4
 refine avb ?_
 cases h;exact eq_by

theorem l_heldCorrectionS_ok (N : Nat) (v0 : List (Gx.Correction)) (v1 : Int) {r : Int} (h : l_heldCorrectionS N v0 v1 = some r) : Pure Tryz.prog 68 [DV.one (D.sl 5 (List.map Gx.Correction.enc v0)), DV.one (D.i v1)] (DV.one (D.i r)) := by
 refine pure_of_walk Tryz.tok Tryz.mixed Tryz.func68 (by kernel_rfl) fun W => ?_
 unfold l_heldCorrectionS at h
 refine ab0 ?_
 refine W.r_seq ?_
 refine ab0 ?_
 obtain ⟨zt7, h, gt7⟩ := cutb_some h
 refine W.r_cut (fun (t7 : Int) => ⟨[(1, .d (D.i t7))], [], 1000⟩) (fun t => .nx t = zt7) ?_ ?_
 ·refine avb ?_
  refine loop_lp (fun (p1 : Int × Int) => ⟨[(0, .d (D.sl 5 (List.map Gx.Correction.enc v0))), (1, .d (D.i p1.1)), (5, .d (D.i p1.2))], [], 1000⟩) h ?_ ?_
  ·exact weak_by
  intro np1 p1 yp1 h hfp1
  unfold l_heldCorrectionS_L1 at h
  refine avb ?_
  refine lns (v0.length : Int) ?_
  refine avb ?_
  refine brb h ?_ ?_<;>intro _ h
  ·refine idx_sel h (fun x1 hx1 h => ?_)
   refine avb ?_
   refine brb h ?_ ?_<;>intro _ h
   ·have h := finr hfp1 h
    have h := cutr gt7 h
    cases h;exact eq_by
   ·refine idx_sel h (fun x2 hx2 h => ?_)
    refine avb ?_
    refine brb h ?_ ?_<;>intro _ h
    ·have h := finr hfp1 h
     have h := cutr gt7 h
     cases h;exact eq_by
    ·refine idx_sel h (fun x3 hx3 h => ?_)
     refine avb ?_
     refine brb h ?_ ?_<;>intro _ h
     ·have h := finr hfp1 h
      have h := cutr gt7 h
      cases h;exact eq_by
     ·refine idx_sel h (fun x4 hx4 h => ?_)
      refine avb ?_
      refine plb ?_;refine call_sel (E := fun (x : Int) => DV.one (D.i x)) h (fun x5 h1 => (l_heldStepS_ok N x4.mClue.mPlay (w64 ((w64 ((w64 (p1.1 + 1)) + 1)) + 1)) h1)) (fun x5 hx5 h => ?_)
      refine avb ?_
      refine brb h ?_ ?_<;>intro _ h
      ·have h := finr hfp1 h
       have h := cutr gt7 h
       cases h;exact eq_by
      ·refine idx_sel h (fun x6 hx6 h => ?_)
       refine avb ?_
       refine brb h ?_ ?_<;>intro _ h
       ·have h := finr hfp1 h
        have h := cutr gt7 h
        cases h;exact eq_by
       ·exact lbk hfp1 h
  ·have h := finr hfp1 h
   refine cut_at (p1.1) (some_in h) ?_
   exact weak_by
 rintro t7 rfl
 have h : _ = some _ := gt7
 refine avb ?_
 cases h;exact eq_by

theorem l_heldEntryS_ok (N : Nat) (v0 : List (Gx.Entry)) (v1 : Int) {r : Int} (h : l_heldEntryS N v0 v1 = some r) : Pure Tryz.prog 69 [DV.one (D.sl 4 (List.map Gx.Entry.enc v0)), DV.one (D.i v1)] (DV.one (D.i r)) := by
 refine pure_of_walk Tryz.tok Tryz.mixed Tryz.func69 (by kernel_rfl) fun W => ?_
 unfold l_heldEntryS at h
 refine ab0 ?_
 refine W.r_seq ?_
 refine ab0 ?_
 obtain ⟨zt6, h, gt6⟩ := cutb_some h
 refine W.r_cut (fun (t6 : Int) => ⟨[(1, .d (D.i t6))], [], 1000⟩) (fun t => .nx t = zt6) ?_ ?_
 ·refine avb ?_
  refine loop_lp (fun (p1 : Int × Int) => ⟨[(0, .d (D.sl 4 (List.map Gx.Entry.enc v0))), (1, .d (D.i p1.1)), (5, .d (D.i p1.2))], [], 1000⟩) h ?_ ?_
  ·exact weak_by
  intro np1 p1 yp1 h hfp1
  unfold l_heldEntryS_L1 at h
  refine avb ?_
  refine lns (v0.length : Int) ?_
  refine avb ?_
  refine brb h ?_ ?_<;>intro _ h
  ·refine idx_sel h (fun x1 hx1 h => ?_)
   refine avb ?_
   refine brb h ?_ ?_<;>intro _ h
   ·have h := finr hfp1 h
    have h := cutr gt6 h
    cases h;exact eq_by
   ·refine idx_sel h (fun x2 hx2 h => ?_)
    refine avb ?_
    refine brb h ?_ ?_<;>intro _ h
    ·have h := finr hfp1 h
     have h := cutr gt6 h
     cases h;exact eq_by
    ·refine idx_sel h (fun x3 hx3 h => ?_)
     refine avb ?_
     refine brb h ?_ ?_<;>intro _ h
     ·have h := finr hfp1 h
      have h := cutr gt6 h
      cases h;exact eq_by
     ·refine idx_sel h (fun x4 hx4 h => ?_)
      refine avb ?_
      refine plb ?_;refine call_sel (E := fun (x : (List UInt8)) => DV.one (D.s x)) h (fun x5 h1 => (l_markText_ok N (w64 ((w64 ((w64 (p1.1 + 1)) + 1)) + 1)) h1)) (fun x5 hx5 h => ?_)
      refine avb ?_
      refine brb h ?_ ?_<;>intro _ h
      ·have h := finr hfp1 h
       have h := cutr gt6 h
       cases h;exact eq_by
      ·exact lbk hfp1 h
  ·have h := finr hfp1 h
   refine cut_at (p1.1) (some_in h) ?_
   exact weak_by
 rintro t6 rfl
 have h : _ = some _ := gt6
 refine avb ?_
 cases h;exact eq_by

theorem l_heldHouse_ok (N : Nat) (v0 : Gx.House) (v1 : Int) {r : Int} (h : l_heldHouse N v0 v1 = some r) : Pure Tryz.prog 19 [DV.agg (Gx.House.enc v0), DV.one (D.i v1)] (DV.one (D.i r)) := by
 refine pure_of_walk Tryz.tok Tryz.mixed Tryz.func19 (by kernel_rfl) fun W => ?_
 unfold l_heldHouse at h
 refine avb ?_
 refine plb ?_;refine call_sel (E := fun (x : Int) => DV.one (D.i x)) h (fun x1 h1 => (l_heldListedS_ok N v0.mList v1 h1)) (fun x1 hx1 h => ?_)
 refine avb ?_
 refine brb h ?_ ?_<;>intro _ h
 ·cases h;exact eq_by
 ·refine plb ?_;refine call_sel (E := fun (x : Int) => DV.one (D.i x)) h (fun x2 h1 => (l_heldMeaningS_ok N v0.mDict x1 h1)) (fun x2 hx2 h => ?_)
  refine avb ?_
  refine brb h ?_ ?_<;>intro _ h
  ·cases h;exact eq_by
  ·refine plb ?_;refine call_sel (E := fun (x : Int) => DV.one (D.i x)) h (fun x3 h1 => (l_heldDraft_ok N v0.mDesk x2 h1)) (fun x3 hx3 h => ?_)
   refine avb ?_
   refine brb h ?_ ?_<;>intro _ h
   ·cases h;exact eq_by
   ·refine plb ?_;refine call_sel (E := fun (x : Int) => DV.one (D.i x)) h (fun x4 h1 => (l_heldIssueS_ok N v0.mIssues x3 h1)) (fun x4 hx4 h => ?_)
    refine avb ?_
    refine brb h ?_ ?_<;>intro _ h
    ·cases h;exact eq_by
    ·refine plb ?_;refine call_sel (E := fun (x : Int) => DV.one (D.i x)) h (fun x5 h1 => (l_heldUsedS_ok N v0.mUses x4 h1)) (fun x5 hx5 h => ?_)
     refine avb ?_
     refine brb h ?_ ?_<;>intro _ h
     ·cases h;exact eq_by
     ·refine plb ?_;refine call_sel (E := fun (x : Int) => DV.one (D.i x)) h (fun x6 h1 => (l_heldCorrectionS_ok N v0.mCorrections x5 h1)) (fun x6 hx6 h => ?_)
      refine avb ?_
      refine brb h ?_ ?_<;>intro _ h
      ·cases h;exact eq_by
      ·refine plb ?_;refine call_sel (E := fun (x : Int) => DV.one (D.i x)) h (fun x7 h1 => (l_heldEntryS_ok N v0.mEntries x6 h1)) (fun x7 hx7 h => ?_)
       refine avb ?_
       refine brb h ?_ ?_<;>intro _ h
       ·cases h;exact eq_by
       ·cases h;exact eq_by

theorem l_FnExactStepWord_ok (N : Nat) (v0 : Gx.House) (v1 : Gx.Listed) (v2 : Gx.Meaning) {r : Bool} (h : l_FnExactStepWord N v0 v1 v2 = some r) : Pure Tryz.prog 4 [DV.agg (Gx.House.enc v0), DV.agg (Gx.Listed.enc v1), DV.agg (Gx.Meaning.enc v2)] (DV.one (D.b r)) := by
 refine pure_of_walk Tryz.tok Tryz.mixed Tryz.func4 (by kernel_rfl) fun W => ?_
 unfold l_FnExactStepWord at h
 refine avb ?_
 refine pdb ?_;refine call_sel (E := fun (x : Int) => DV.one (D.i x)) h (fun x1 h1 => (l_szHouse_ok N v0 1048576 h1)) (fun x1 hx1 h => ?_)
 refine avb ?_
 refine brb h ?_ ?_<;>intro _ h
 ·cases h;exact eq_by
 ·refine pdb ?_;refine call_sel (E := fun (x : Int) => DV.one (D.i x)) h (fun x2 h1 => (l_szListed_ok N v1 x1 h1)) (fun x2 hx2 h => ?_)
  refine avb ?_
  refine brb h ?_ ?_<;>intro _ h
  ·cases h;exact eq_by
  ·refine pdb ?_;refine call_sel (E := fun (x : Int) => DV.one (D.i x)) h (fun x3 h1 => (l_szMeaning_ok N v2 x2 h1)) (fun x3 hx3 h => ?_)
   refine avb ?_
   refine brb h ?_ ?_<;>intro _ h
   ·cases h;exact eq_by
   ·refine pdb ?_;refine call_sel (E := fun (x : Gx.House) => DV.agg (Gx.House.enc x)) h (fun x4 h1 => (l_toHouse_ok N v0 h1)) (fun x4 hx4 h => ?_)
    refine avb ?_
    refine pdb ?_;refine call_sel (E := fun (x : Gx.Listed) => DV.agg (Gx.Listed.enc x)) h (fun x5 h1 => (l_toListed_ok N v1 h1)) (fun x5 hx5 h => ?_)
    refine avb ?_
    refine pdb ?_;refine call_sel (E := fun (x : Gx.Meaning) => DV.agg (Gx.Meaning.enc x)) h (fun x6 h1 => (l_toMeaning_ok N v2 h1)) (fun x6 hx6 h => ?_)
    refine avb ?_
    refine pdb ?_;refine call_sel (E := fun (x : Gx.House × Bool) => DV.tup [DV.agg (Gx.House.enc x.1), DV.one (D.b x.2)]) h (fun x7 h1 => (s_StepWord_ok N x4 x5 x6 h1)) (fun x7 hx7 h => ?_)
    refine avb ?_
    refine pdb ?_;refine call_sel (E := fun (x : Gx.House) => DV.agg (Gx.House.enc x)) h (fun x8 h1 => (l_toHouse_ok N v0 h1)) (fun x8 hx8 h => ?_)
    refine avb ?_
    refine pdb ?_;refine call_sel (E := fun (x : Gx.Listed) => DV.agg (Gx.Listed.enc x)) h (fun x9 h1 => (l_toListed_ok N v1 h1)) (fun x9 hx9 h => ?_)
    refine avb ?_
    refine pdb ?_;refine call_sel (E := fun (x : Gx.Meaning) => DV.agg (Gx.Meaning.enc x)) h (fun x10 h1 => (l_toMeaning_ok N v2 h1)) (fun x10 hx10 h => ?_)
    refine avb ?_
    refine pdb ?_;refine call_sel (E := fun (x : Gx.House × Bool) => DV.tup [DV.agg (Gx.House.enc x.1), DV.one (D.b x.2)]) h (fun x11 h1 => (i_StepWord_ok N x8 x9 x10 h1)) (fun x11 hx11 h => ?_)
    refine avb ?_
    refine pdb ?_;refine call_sel (E := fun (x : Bool) => DV.one (D.b x)) h (fun x12 h1 => (l_eqHouse_ok N x11.1 x7.1 h1)) (fun x12 hx12 h => ?_)
    refine avb ?_
    refine brb h ?_ ?_<;>intro _ h
    ·cases h;exact eq_by
    ·refine brb h ?_ ?_<;>intro _ h
     ·cases h;exact eq_by
     ·refine pdb ?_;refine call_sel (E := fun (x : Gx.House) => DV.agg (Gx.House.enc x)) h (fun x13 h1 => (l_toHouse_ok N v0 h1)) (fun x13 hx13 h => ?_)
      refine avb ?_
      refine pdb ?_;refine call_sel (E := fun (x : Bool) => DV.one (D.b x)) h (fun x14 h1 => (l_eqHouse_ok N x8 x13 h1)) (fun x14 hx14 h => ?_)
      refine avb ?_
      refine brb h ?_ ?_<;>intro _ h
      ·cases h;exact eq_by
      ·refine qtb ?_;refine turn_sel (O := fun (x15 : (List (Gx.Listed)) × (List (Gx.Meaning)) × (List (Gx.Clue)) × (List (Gx.Issue)) × (List (Gx.Used)) × (List (Gx.Correction)) × (List (Gx.Entry)) × Int) => [some (.deep 4 (List.map Gx.Listed.enc x15.1)), some (.deep 2 (List.map Gx.Meaning.enc x15.2.1)), some (.deep 2 (List.map Gx.Clue.enc x15.2.2.1)), some (.deep 10 (List.map Gx.Issue.enc x15.2.2.2.1)), some (.deep 2 (List.map Gx.Used.enc x15.2.2.2.2.1)), some (.deep 5 (List.map Gx.Correction.enc x15.2.2.2.2.2.1)), some (.deep 4 (List.map Gx.Entry.enc x15.2.2.2.2.2.2.1))]) (V := fun (x15 : (List (Gx.Listed)) × (List (Gx.Meaning)) × (List (Gx.Clue)) × (List (Gx.Issue)) × (List (Gx.Used)) × (List (Gx.Correction)) × (List (Gx.Entry)) × Int) => .d (D.i x15.2.2.2.2.2.2.2)) h trivial (fun x15 h1 => (l_markHouse_ok N x8 1 h1)) (fun x15 hx15 h => ?_)
       refine avb ?_
       refine brb h ?_ ?_<;>intro _ h
       ·cases h;exact eq_by
       ·refine pdb ?_;refine call_sel (E := fun (x : Bool) => DV.one (D.b x)) h (fun x16 h1 => (l_eqHouse_ok N x11.1 x7.1 h1)) (fun x16 hx16 h => ?_)
        refine avb ?_
        refine brb h ?_ ?_<;>intro _ h
        ·cases h;exact eq_by
        ·refine brb h ?_ ?_<;>intro _ h
         ·cases h;exact eq_by
         ·refine qtb ?_;refine turn_sel (O := fun (x17 : (List (Gx.Listed)) × (List (Gx.Meaning)) × (List (Gx.Clue)) × (List (Gx.Issue)) × (List (Gx.Used)) × (List (Gx.Correction)) × (List (Gx.Entry)) × Int) => [some (.deep 4 (List.map Gx.Listed.enc x17.1)), some (.deep 2 (List.map Gx.Meaning.enc x17.2.1)), some (.deep 2 (List.map Gx.Clue.enc x17.2.2.1)), some (.deep 10 (List.map Gx.Issue.enc x17.2.2.2.1)), some (.deep 2 (List.map Gx.Used.enc x17.2.2.2.2.1)), some (.deep 5 (List.map Gx.Correction.enc x17.2.2.2.2.2.1)), some (.deep 4 (List.map Gx.Entry.enc x17.2.2.2.2.2.2.1))]) (V := fun (x17 : (List (Gx.Listed)) × (List (Gx.Meaning)) × (List (Gx.Clue)) × (List (Gx.Issue)) × (List (Gx.Used)) × (List (Gx.Correction)) × (List (Gx.Entry)) × Int) => .d (D.i x17.2.2.2.2.2.2.2)) h trivial (fun x17 h1 => (l_markHouse_ok N x11.1 1 h1)) (fun x17 hx17 h => ?_)
          refine avb ?_
          refine pdb ?_;refine call_sel (E := fun (x : Int) => DV.one (D.i x)) h (fun x18 h1 => (l_heldHouse_ok N (⟨x17.1, x17.2.1, (⟨(⟨x11.1.mDesk.mGrid.mRows, x11.1.mDesk.mGrid.mCols, x11.1.mDesk.mGrid.mCells⟩ : Gx.Grid), x11.1.mDesk.mFill, x17.2.2.1, x11.1.mDesk.mVersion⟩ : Gx.Draft), x17.2.2.2.1, x17.2.2.2.2.1, x17.2.2.2.2.2.1, x17.2.2.2.2.2.2.1, x11.1.mNow⟩ : Gx.House) 1 h1)) (fun x18 hx18 h => ?_)
          refine avb ?_
          refine brb h ?_ ?_<;>intro _ h
          ·cases h;exact eq_by
          ·refine brb h ?_ ?_<;>intro _ h
           ·cases h;exact eq_by
           ·refine pdb ?_;refine call_sel (E := fun (x : Gx.House) => DV.agg (Gx.House.enc x)) h (fun x19 h1 => (l_toHouse_ok N v0 h1)) (fun x19 hx19 h => ?_)
            refine avb ?_
            refine pdb ?_;refine call_sel (E := fun (x : Gx.Listed) => DV.agg (Gx.Listed.enc x)) h (fun x20 h1 => (l_toListed_ok N v1 h1)) (fun x20 hx20 h => ?_)
            refine avb ?_
            refine pdb ?_;refine call_sel (E := fun (x : Gx.Meaning) => DV.agg (Gx.Meaning.enc x)) h (fun x21 h1 => (l_toMeaning_ok N v2 h1)) (fun x21 hx21 h => ?_)
            refine avb ?_
            refine pdb ?_;refine call_sel (E := fun (x : Gx.House × Bool) => DV.tup [DV.agg (Gx.House.enc x.1), DV.one (D.b x.2)]) h (fun x22 h1 => (i_StepWord_ok N x19 x20 x21 h1)) (fun x22 hx22 h => ?_)
            refine avb ?_
            refine pdb ?_;refine call_sel (E := fun (x : Bool) => DV.one (D.b x)) h (fun x23 h1 => (l_eqHouse_ok N x22.1 x7.1 h1)) (fun x23 hx23 h => ?_)
            refine avb ?_
            refine brb h ?_ ?_<;>intro _ h
            ·cases h;exact eq_by
            ·refine brb h ?_ ?_<;>intro _ h
             ·cases h;exact eq_by
             ·refine pdb ?_;refine call_sel (E := fun (x : Int) => DV.one (D.i x)) h (fun x24 h1 => (l_heldHouse_ok N (⟨x17.1, x17.2.1, (⟨(⟨x11.1.mDesk.mGrid.mRows, x11.1.mDesk.mGrid.mCols, x11.1.mDesk.mGrid.mCells⟩ : Gx.Grid), x11.1.mDesk.mFill, x17.2.2.1, x11.1.mDesk.mVersion⟩ : Gx.Draft), x17.2.2.2.1, x17.2.2.2.2.1, x17.2.2.2.2.2.1, x17.2.2.2.2.2.2.1, x11.1.mNow⟩ : Gx.House) 1 h1)) (fun x24 hx24 h => ?_)
              refine avb ?_
              refine brb h ?_ ?_<;>intro _ h
              ·cases h;exact eq_by
              ·refine brb h ?_ ?_<;>intro _ h
               ·cases h;exact eq_by
               ·cases h;exact eq_by
end Lw
end Go.Proofs
