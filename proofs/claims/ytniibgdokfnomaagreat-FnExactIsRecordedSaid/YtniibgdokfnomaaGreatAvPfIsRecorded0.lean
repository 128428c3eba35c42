/- PRINTED BY gen.py (mine): their contracts. -/
import Derived.Test.YtniibgdokfnomaaGreatAvHpIsRecorded
namespace Go.Proofs
open Go Go.Av
set_option maxRecDepth 100000
set_option maxHeartbeats 40000000
set_option linter.unusedVariables false
set_option linter.unusedSimpArgs false
namespace Lw
theorem l_szListed_ok (N:Nat) (v0:Gx.Listed) (v1:Int) {r:Int} (h:l_szListed N v0 v1=some r):Pure Tryz.prog 12 [DV.agg (Gx.Listed.enc v0),DV.one (D.i v1)] (DV.one (D.i r)):=by
 refine pure_of_walk Tryz.tok Tryz.mixed Tryz.func12 (by kernel_rfl) fun W=>?_
 unfold l_szListed at h
 refine avb ?_
 refine lns (v0.mWord.length:Int) ?_
 refine avb ?_
 refine brb h ?_ ?_<;>intro _ h
 ·cases h;exact eq_by
 ·cases h;exact eq_by

theorem l_szListedS_ok (N:Nat) (v0:List (Gx.Listed)) (v1:Int) {r:Int} (h:l_szListedS N v0 v1=some r):Pure Tryz.prog 24 [DV.one (D.sl 4 (List.map Gx.Listed.enc v0)),DV.one (D.i v1)] (DV.one (D.i r)):=by
 refine pure_of_walk Tryz.tok Tryz.mixed Tryz.func24 (by kernel_rfl) fun W=>?_
 unfold l_szListedS at h
 refine avb ?_
 refine lns (v0.length:Int) ?_
 refine avb ?_
 refine br_sel h (fun _ h=>?_) (fun _ h=>?_)
 ·refine avb ?_
  cases h;exact eq_by
 ·refine ab0 ?_
  obtain ⟨zt3,h,gt3⟩:=cutb_some h
  refine W.r_cut (fun (t3:Int)=>⟨[(1,.d (D.i t3))],[],1000⟩) (fun t=>.nx t=zt3) ?_ ?_
  ·refine avb ?_
   refine loop_lp (fun (p1:Int×Int)=>⟨[(0,.d (D.sl 4 (List.map Gx.Listed.enc v0))),(1,.d (D.i p1.1)),(5,.d (D.i p1.2))],[],1000⟩) h ?_ ?_
   ·exact weak_by
   intro np1 p1 yp1 h hfp1
   unfold l_szListedS_L1 at h
   refine avb ?_
   refine lns (v0.length:Int) ?_
   refine avb ?_
   refine brb h ?_ ?_<;>intro _ h
   ·refine idx_sel h (fun x1 hx1 h=>?_)
    refine avb ?_
    refine plb ?_;refine call_sel (E:=fun (x:Int)=>DV.one (D.i x)) h (fun x2 h1=>(l_szListed_ok N x1 p1.1 h1)) (fun x2 hx2 h=>?_)
    refine avb ?_
    refine brb h ?_ ?_<;>intro _ h
    ·have h:=finr hfp1 h
     have h:=cutr gt3 h
     cases h;exact eq_by
    ·exact lbk hfp1 h
   ·have h:=finr hfp1 h
    refine cut_at (p1.1) (some_in h) ?_
    exact weak_by
  rintro t3 rfl
  have h:_=some _:=gt3
  refine avb ?_
  cases h;exact eq_by

theorem l_szMeaning_ok (N:Nat) (v0:Gx.Meaning) (v1:Int) {r:Int} (h:l_szMeaning N v0 v1=some r):Pure Tryz.prog 13 [DV.agg (Gx.Meaning.enc v0),DV.one (D.i v1)] (DV.one (D.i r)):=by
 refine pure_of_walk Tryz.tok Tryz.mixed Tryz.func13 (by kernel_rfl) fun W=>?_
 unfold l_szMeaning at h
 refine avb ?_
 refine lns (v0.mWord.length:Int) ?_
 refine avb ?_
 refine brb h ?_ ?_<;>intro _ h
 ·cases h;exact eq_by
 ·cases h;exact eq_by

theorem l_szMeaningS_ok (N:Nat) (v0:List (Gx.Meaning)) (v1:Int) {r:Int} (h:l_szMeaningS N v0 v1=some r):Pure Tryz.prog 25 [DV.one (D.sl 2 (List.map Gx.Meaning.enc v0)),DV.one (D.i v1)] (DV.one (D.i r)):=by
 refine pure_of_walk Tryz.tok Tryz.mixed Tryz.func25 (by kernel_rfl) fun W=>?_
 unfold l_szMeaningS at h
 refine avb ?_
 refine lns (v0.length:Int) ?_
 refine avb ?_
 refine br_sel h (fun _ h=>?_) (fun _ h=>?_)
 ·refine avb ?_
  cases h;exact eq_by
 ·refine ab0 ?_
  obtain ⟨zt3,h,gt3⟩:=cutb_some h
  refine W.r_cut (fun (t3:Int)=>⟨[(1,.d (D.i t3))],[],1000⟩) (fun t=>.nx t=zt3) ?_ ?_
  ·refine avb ?_
   refine loop_lp (fun (p1:Int×Int)=>⟨[(0,.d (D.sl 2 (List.map Gx.Meaning.enc v0))),(1,.d (D.i p1.1)),(5,.d (D.i p1.2))],[],1000⟩) h ?_ ?_
   ·exact weak_by
   intro np1 p1 yp1 h hfp1
   unfold l_szMeaningS_L1 at h
   refine avb ?_
   refine lns (v0.length:Int) ?_
   refine avb ?_
   refine brb h ?_ ?_<;>intro _ h
   ·refine idx_sel h (fun x1 hx1 h=>?_)
    refine avb ?_
    refine plb ?_;refine call_sel (E:=fun (x:Int)=>DV.one (D.i x)) h (fun x2 h1=>(l_szMeaning_ok N x1 p1.1 h1)) (fun x2 hx2 h=>?_)
    refine avb ?_
    refine brb h ?_ ?_<;>intro _ h
    ·have h:=finr hfp1 h
     have h:=cutr gt3 h
     cases h;exact eq_by
    ·exact lbk hfp1 h
   ·have h:=finr hfp1 h
    refine cut_at (p1.1) (some_in h) ?_
    exact weak_by
  rintro t3 rfl
  have h:_=some _:=gt3
  refine avb ?_
  cases h;exact eq_by

theorem l_szGrid_ok (N:Nat) (v0:Gx.Grid) (v1:Int) {r:Int} (h:l_szGrid N v0 v1=some r):Pure Tryz.prog 80 [DV.agg (Gx.Grid.enc v0),DV.one (D.i v1)] (DV.one (D.i r)):=by
 refine pure_of_walk Tryz.tok Tryz.mixed Tryz.func80 (by kernel_rfl) fun W=>?_
 unfold l_szGrid at h
 refine avb ?_
 refine lns (v0.mCells.length:Int) ?_
 refine avb ?_
 refine brb h ?_ ?_<;>intro _ h
 ·cases h;exact eq_by
 ·cases h;exact eq_by

theorem l_szStep_ok (N:Nat) (v0:Gx.Step) (v1:Int) {r:Int} (h:l_szStep N v0 v1=some r):Pure Tryz.prog 246 [DV.agg (Gx.Step.enc v0),DV.one (D.i v1)] (DV.one (D.i r)):=by
 refine pure_of_walk Tryz.tok Tryz.mixed Tryz.func246 (by kernel_rfl) fun W=>?_
 unfold l_szStep at h
 refine avb ?_
 refine lns (v0.mWord.length:Int) ?_
 refine avb ?_
 refine brb h ?_ ?_<;>intro _ h
 ·cases h;exact eq_by
 ·cases h;exact eq_by

theorem l_szStepS_ok (N:Nat) (v0:List (Gx.Step)) (v1:Int) {r:Int} (h:l_szStepS N v0 v1=some r):Pure Tryz.prog 205 [DV.one (D.sl 4 (List.map Gx.Step.enc v0)),DV.one (D.i v1)] (DV.one (D.i r)):=by
 refine pure_of_walk Tryz.tok Tryz.mixed Tryz.func205 (by kernel_rfl) fun W=>?_
 unfold l_szStepS at h
 refine avb ?_
 refine lns (v0.length:Int) ?_
 refine avb ?_
 refine br_sel h (fun _ h=>?_) (fun _ h=>?_)
 ·refine avb ?_
  cases h;exact eq_by
 ·refine ab0 ?_
  obtain ⟨zt3,h,gt3⟩:=cutb_some h
  refine W.r_cut (fun (t3:Int)=>⟨[(1,.d (D.i t3))],[],1000⟩) (fun t=>.nx t=zt3) ?_ ?_
  ·refine avb ?_
   refine loop_lp (fun (p1:Int×Int)=>⟨[(0,.d (D.sl 4 (List.map Gx.Step.enc v0))),(1,.d (D.i p1.1)),(5,.d (D.i p1.2))],[],1000⟩) h ?_ ?_
   ·exact weak_by
   intro np1 p1 yp1 h hfp1
   unfold l_szStepS_L1 at h
   refine avb ?_
   refine lns (v0.length:Int) ?_
   refine avb ?_
   refine brb h ?_ ?_<;>intro _ h
   ·refine idx_sel h (fun x1 hx1 h=>?_)
    refine avb ?_
    refine plb ?_;refine call_sel (E:=fun (x:Int)=>DV.one (D.i x)) h (fun x2 h1=>(l_szStep_ok N x1 p1.1 h1)) (fun x2 hx2 h=>?_)
    refine avb ?_
    refine brb h ?_ ?_<;>intro _ h
    ·have h:=finr hfp1 h
     have h:=cutr gt3 h
     cases h;exact eq_by
    ·exact lbk hfp1 h
   ·have h:=finr hfp1 h
    refine cut_at (p1.1) (some_in h) ?_
    exact weak_by
  rintro t3 rfl
  have h:_=some _:=gt3
  refine avb ?_
  cases h;exact eq_by

theorem l_szClue_ok (N:Nat) (v0:Gx.Clue) (v1:Int) {r:Int} (h:l_szClue N v0 v1=some r):Pure Tryz.prog 160 [DV.agg (Gx.Clue.enc v0),DV.one (D.i v1)] (DV.one (D.i r)):=by
 refine pure_of_walk Tryz.tok Tryz.mixed Tryz.func160 (by kernel_rfl) fun W=>?_
 unfold l_szClue at h
 refine avb ?_
 refine plb ?_;refine call_sel (E:=fun (x:Int)=>DV.one (D.i x)) h (fun x1 h1=>(l_szStepS_ok N v0.mPlay v1 h1)) (fun x1 hx1 h=>?_)
 refine avb ?_
 refine brb h ?_ ?_<;>intro _ h
 ·cases h;exact eq_by
 ·cases h;exact eq_by

theorem l_szClueS_ok (N:Nat) (v0:List (Gx.Clue)) (v1:Int) {r:Int} (h:l_szClueS N v0 v1=some r):Pure Tryz.prog 81 [DV.one (D.sl 2 (List.map Gx.Clue.enc v0)),DV.one (D.i v1)] (DV.one (D.i r)):=by
 refine pure_of_walk Tryz.tok Tryz.mixed Tryz.func81 (by kernel_rfl) fun W=>?_
 unfold l_szClueS at h
 refine avb ?_
 refine lns (v0.length:Int) ?_
 refine avb ?_
 refine br_sel h (fun _ h=>?_) (fun _ h=>?_)
 ·refine avb ?_
  cases h;exact eq_by
 ·refine ab0 ?_
  obtain ⟨zt3,h,gt3⟩:=cutb_some h
  refine W.r_cut (fun (t3:Int)=>⟨[(1,.d (D.i t3))],[],1000⟩) (fun t=>.nx t=zt3) ?_ ?_
  ·refine avb ?_
   refine loop_lp (fun (p1:Int×Int)=>⟨[(0,.d (D.sl 2 (List.map Gx.Clue.enc v0))),(1,.d (D.i p1.1)),(5,.d (D.i p1.2))],[],1000⟩) h ?_ ?_
   ·exact weak_by
   intro np1 p1 yp1 h hfp1
   unfold l_szClueS_L1 at h
   refine avb ?_
   refine lns (v0.length:Int) ?_
   refine avb ?_
   refine brb h ?_ ?_<;>intro _ h
   ·refine idx_sel h (fun x1 hx1 h=>?_)
    refine avb ?_
    refine plb ?_;refine call_sel (E:=fun (x:Int)=>DV.one (D.i x)) h (fun x2 h1=>(l_szClue_ok N x1 p1.1 h1)) (fun x2 hx2 h=>?_)
    refine avb ?_
    refine brb h ?_ ?_<;>intro _ h
    ·have h:=finr hfp1 h
     have h:=cutr gt3 h
     cases h;exact eq_by
    ·exact lbk hfp1 h
   ·have h:=finr hfp1 h
    refine cut_at (p1.1) (some_in h) ?_
    exact weak_by
  rintro t3 rfl
  have h:_=some _:=gt3
  refine avb ?_
  cases h;exact eq_by

theorem l_szDraft_ok (N:Nat) (v0:Gx.Draft) (v1:Int) {r:Int} (h:l_szDraft N v0 v1=some r):Pure Tryz.prog 26 [DV.agg (Gx.Draft.enc v0),DV.one (D.i v1)] (DV.one (D.i r)):=by
 refine pure_of_walk Tryz.tok Tryz.mixed Tryz.func26 (by kernel_rfl) fun W=>?_
 unfold l_szDraft at h
 refine avb ?_
 refine plb ?_;refine call_sel (E:=fun (x:Int)=>DV.one (D.i x)) h (fun x1 h1=>(l_szGrid_ok N v0.mGrid v1 h1)) (fun x1 hx1 h=>?_)
 refine avb ?_
 refine brb h ?_ ?_<;>intro _ h
 ·cases h;exact eq_by
 ·refine lns (v0.mFill.length:Int) ?_
  refine avb ?_
  refine brb h ?_ ?_<;>intro _ h
  ·cases h;exact eq_by
  ·refine plb ?_;refine call_sel (E:=fun (x:Int)=>DV.one (D.i x)) h (fun x2 h1=>(l_szClueS_ok N v0.mClues (w64 (x1 - (v0.mFill.length:Int))) h1)) (fun x2 hx2 h=>?_)
   refine avb ?_
   refine brb h ?_ ?_<;>intro _ h
   ·cases h;exact eq_by
   ·cases h;exact eq_by

theorem l_szIntS_ok (N:Nat) (v0:List (Int)) (v1:Int) {r:Int} (h:l_szIntS N v0 v1=some r):Pure Tryz.prog 206 [DV.one (D.sl 1 (List.map Gx.encI v0)),DV.one (D.i v1)] (DV.one (D.i r)):=by
 refine pure_of_walk Tryz.tok Tryz.mixed Tryz.func206 (by kernel_rfl) fun W=>?_
 unfold l_szIntS at h
 refine avb ?_
 refine lns (v0.length:Int) ?_
 refine avb ?_
 refine brb h ?_ ?_<;>intro _ h
 ·cases h;exact eq_by
 ·cases h;exact eq_by

theorem l_szPuzzle_ok (N:Nat) (v0:Gx.Puzzle) (v1:Int) {r:Int} (h:l_szPuzzle N v0 v1=some r):Pure Tryz.prog 161 [DV.agg (Gx.Puzzle.enc v0),DV.one (D.i v1)] (DV.one (D.i r)):=by
 refine pure_of_walk Tryz.tok Tryz.mixed Tryz.func161 (by kernel_rfl) fun W=>?_
 unfold l_szPuzzle at h
 refine avb ?_
 refine plb ?_;refine call_sel (E:=fun (x:Int)=>DV.one (D.i x)) h (fun x1 h1=>(l_szGrid_ok N v0.mGrid v1 h1)) (fun x1 hx1 h=>?_)
 refine avb ?_
 refine brb h ?_ ?_<;>intro _ h
 ·cases h;exact eq_by
 ·refine plb ?_;refine call_sel (E:=fun (x:Int)=>DV.one (D.i x)) h (fun x2 h1=>(l_szClueS_ok N v0.mClues x1 h1)) (fun x2 hx2 h=>?_)
  refine avb ?_
  refine brb h ?_ ?_<;>intro _ h
  ·cases h;exact eq_by
  ·refine plb ?_;refine call_sel (E:=fun (x:Int)=>DV.one (D.i x)) h (fun x3 h1=>(l_szIntS_ok N v0.mSeals x2 h1)) (fun x3 hx3 h=>?_)
   refine avb ?_
   refine brb h ?_ ?_<;>intro _ h
   ·cases h;exact eq_by
   ·cases h;exact eq_by

theorem l_szIssue_ok (N:Nat) (v0:Gx.Issue) (v1:Int) {r:Int} (h:l_szIssue N v0 v1=some r):Pure Tryz.prog 82 [DV.agg (Gx.Issue.enc v0),DV.one (D.i v1)] (DV.one (D.i r)):=by
 refine pure_of_walk Tryz.tok Tryz.mixed Tryz.func82 (by kernel_rfl) fun W=>?_
 unfold l_szIssue at h
 refine avb ?_
 refine plb ?_;refine call_sel (E:=fun (x:Int)=>DV.one (D.i x)) h (fun x1 h1=>(l_szPuzzle_ok N v0.mPuzzle v1 h1)) (fun x1 hx1 h=>?_)
 refine avb ?_
 refine brb h ?_ ?_<;>intro _ h
 ·cases h;exact eq_by
 ·refine lns (v0.mFill.length:Int) ?_
  refine avb ?_
  refine brb h ?_ ?_<;>intro _ h
  ·cases h;exact eq_by
  ·cases h;exact eq_by

theorem l_szIssueS_ok (N:Nat) (v0:List (Gx.Issue)) (v1:Int) {r:Int} (h:l_szIssueS N v0 v1=some r):Pure Tryz.prog 27 [DV.one (D.sl 10 (List.map Gx.Issue.enc v0)),DV.one (D.i v1)] (DV.one (D.i r)):=by
 refine pure_of_walk Tryz.tok Tryz.mixed Tryz.func27 (by kernel_rfl) fun W=>?_
 unfold l_szIssueS at h
 refine avb ?_
 refine lns (v0.length:Int) ?_
 refine avb ?_
 refine br_sel h (fun _ h=>?_) (fun _ h=>?_)
 ·refine avb ?_
  cases h;exact eq_by
 ·refine ab0 ?_
  obtain ⟨zt3,h,gt3⟩:=cutb_some h
  refine W.r_cut (fun (t3:Int)=>⟨[(1,.d (D.i t3))],[],1000⟩) (fun t=>.nx t=zt3) ?_ ?_
  ·refine avb ?_
   refine loop_lp (fun (p1:Int×Int)=>⟨[(0,.d (D.sl 10 (List.map Gx.Issue.enc v0))),(1,.d (D.i p1.1)),(5,.d (D.i p1.2))],[],1000⟩) h ?_ ?_
   ·exact weak_by
   intro np1 p1 yp1 h hfp1
   unfold l_szIssueS_L1 at h
   refine avb ?_
   refine lns (v0.length:Int) ?_
   refine avb ?_
   refine brb h ?_ ?_<;>intro _ h
   ·refine idx_sel h (fun x1 hx1 h=>?_)
    refine avb ?_
    refine plb ?_;refine call_sel (E:=fun (x:Int)=>DV.one (D.i x)) h (fun x2 h1=>(l_szIssue_ok N x1 p1.1 h1)) (fun x2 hx2 h=>?_)
    refine avb ?_
    refine brb h ?_ ?_<;>intro _ h
    ·have h:=finr hfp1 h
     have h:=cutr gt3 h
     cases h;exact eq_by
    ·exact lbk hfp1 h
   ·have h:=finr hfp1 h
    refine cut_at (p1.1) (some_in h) ?_
    exact weak_by
  rintro t3 rfl
  have h:_=some _:=gt3
  refine avb ?_
  cases h;exact eq_by

theorem l_szUsed_ok (N:Nat) (v0:Gx.Used) (v1:Int) {r:Int} (h:l_szUsed N v0 v1=some r):Pure Tryz.prog 83 [DV.agg (Gx.Used.enc v0),DV.one (D.i v1)] (DV.one (D.i r)):=by
 refine pure_of_walk Tryz.tok Tryz.mixed Tryz.func83 (by kernel_rfl) fun W=>?_
 unfold l_szUsed at h
 refine avb ?_
 refine lns (v0.mWord.length:Int) ?_
 refine avb ?_
 refine brb h ?_ ?_<;>intro _ h
 ·cases h;exact eq_by
 ·cases h;exact eq_by

theorem l_szUsedS_ok (N:Nat) (v0:List (Gx.Used)) (v1:Int) {r:Int} (h:l_szUsedS N v0 v1=some r):Pure Tryz.prog 28 [DV.one (D.sl 2 (List.map Gx.Used.enc v0)),DV.one (D.i v1)] (DV.one (D.i r)):=by
 refine pure_of_walk Tryz.tok Tryz.mixed Tryz.func28 (by kernel_rfl) fun W=>?_
 unfold l_szUsedS at h
 refine avb ?_
 refine lns (v0.length:Int) ?_
 refine avb ?_
 refine br_sel h (fun _ h=>?_) (fun _ h=>?_)
 ·refine avb ?_
  cases h;exact eq_by
 ·refine ab0 ?_
  obtain ⟨zt3,h,gt3⟩:=cutb_some h
  refine W.r_cut (fun (t3:Int)=>⟨[(1,.d (D.i t3))],[],1000⟩) (fun t=>.nx t=zt3) ?_ ?_
  ·refine avb ?_
   refine loop_lp (fun (p1:Int×Int)=>⟨[(0,.d (D.sl 2 (List.map Gx.Used.enc v0))),(1,.d (D.i p1.1)),(5,.d (D.i p1.2))],[],1000⟩) h ?_ ?_
   ·exact weak_by
   intro np1 p1 yp1 h hfp1
   unfold l_szUsedS_L1 at h
   refine avb ?_
   refine lns (v0.length:Int) ?_
   refine avb ?_
   refine brb h ?_ ?_<;>intro _ h
   ·refine idx_sel h (fun x1 hx1 h=>?_)
    refine avb ?_
    refine plb ?_;refine call_sel (E:=fun (x:Int)=>DV.one (D.i x)) h (fun x2 h1=>(l_szUsed_ok N x1 p1.1 h1)) (fun x2 hx2 h=>?_)
    refine avb ?_
    refine brb h ?_ ?_<;>intro _ h
    ·have h:=finr hfp1 h
     have h:=cutr gt3 h
     cases h;exact eq_by
    ·exact lbk hfp1 h
   ·have h:=finr hfp1 h
    refine cut_at (p1.1) (some_in h) ?_
    exact weak_by
  rintro t3 rfl
  have h:_=some _:=gt3
  refine avb ?_
  cases h;exact eq_by

theorem l_szCorrection_ok (N:Nat) (v0:Gx.Correction) (v1:Int) {r:Int} (h:l_szCorrection N v0 v1=some r):Pure Tryz.prog 84 [DV.agg (Gx.Correction.enc v0),DV.one (D.i v1)] (DV.one (D.i r)):=by
 refine pure_of_walk Tryz.tok Tryz.mixed Tryz.func84 (by kernel_rfl) fun W=>?_
 unfold l_szCorrection at h
 refine avb ?_
 refine plb ?_;refine call_sel (E:=fun (x:Int)=>DV.one (D.i x)) h (fun x1 h1=>(l_szClue_ok N v0.mClue v1 h1)) (fun x1 hx1 h=>?_)
 refine avb ?_
 refine brb h ?_ ?_<;>intro _ h
 ·cases h;exact eq_by
 ·cases h;exact eq_by

theorem l_szCorrectionS_ok (N:Nat) (v0:List (Gx.Correction)) (v1:Int) {r:Int} (h:l_szCorrectionS N v0 v1=some r):Pure Tryz.prog 29 [DV.one (D.sl 5 (List.map Gx.Correction.enc v0)),DV.one (D.i v1)] (DV.one (D.i r)):=by
 refine pure_of_walk Tryz.tok Tryz.mixed Tryz.func29 (by kernel_rfl) fun W=>?_
 unfold l_szCorrectionS at h
 refine avb ?_
 refine lns (v0.length:Int) ?_
 refine avb ?_
 refine br_sel h (fun _ h=>?_) (fun _ h=>?_)
 ·refine avb ?_
  cases h;exact eq_by
 ·refine ab0 ?_
  obtain ⟨zt3,h,gt3⟩:=cutb_some h
  refine W.r_cut (fun (t3:Int)=>⟨[(1,.d (D.i t3))],[],1000⟩) (fun t=>.nx t=zt3) ?_ ?_
  ·refine avb ?_
   refine loop_lp (fun (p1:Int×Int)=>⟨[(0,.d (D.sl 5 (List.map Gx.Correction.enc v0))),(1,.d (D.i p1.1)),(5,.d (D.i p1.2))],[],1000⟩) h ?_ ?_
   ·exact weak_by
   intro np1 p1 yp1 h hfp1
   unfold l_szCorrectionS_L1 at h
   refine avb ?_
   refine lns (v0.length:Int) ?_
   refine avb ?_
   refine brb h ?_ ?_<;>intro _ h
   ·refine idx_sel h (fun x1 hx1 h=>?_)
    refine avb ?_
    refine plb ?_;refine call_sel (E:=fun (x:Int)=>DV.one (D.i x)) h (fun x2 h1=>(l_szCorrection_ok N x1 p1.1 h1)) (fun x2 hx2 h=>?_)
    refine avb ?_
    refine brb h ?_ ?_<;>intro _ h
    ·have h:=finr hfp1 h
     have h:=cutr gt3 h
     cases h;exact eq_by
    ·exact lbk hfp1 h
   ·have h:=finr hfp1 h
    refine cut_at (p1.1) (some_in h) ?_
    exact weak_by
  rintro t3 rfl
  have h:_=some _:=gt3
  refine avb ?_
  cases h;exact eq_by

theorem l_szEntry_ok (N:Nat) (v0:Gx.Entry) (v1:Int) {r:Int} (h:l_szEntry N v0 v1=some r):Pure Tryz.prog 85 [DV.agg (Gx.Entry.enc v0),DV.one (D.i v1)] (DV.one (D.i r)):=by
 refine pure_of_walk Tryz.tok Tryz.mixed Tryz.func85 (by kernel_rfl) fun W=>?_
 unfold l_szEntry at h
 refine avb ?_
 refine lns (v0.mFill.length:Int) ?_
 refine avb ?_
 refine brb h ?_ ?_<;>intro _ h
 ·cases h;exact eq_by
 ·cases h;exact eq_by

theorem l_szEntryS_ok (N:Nat) (v0:List (Gx.Entry)) (v1:Int) {r:Int} (h:l_szEntryS N v0 v1=some r):Pure Tryz.prog 30 [DV.one (D.sl 4 (List.map Gx.Entry.enc v0)),DV.one (D.i v1)] (DV.one (D.i r)):=by
 refine pure_of_walk Tryz.tok Tryz.mixed Tryz.func30 (by kernel_rfl) fun W=>?_
 unfold l_szEntryS at h
 refine avb ?_
 refine lns (v0.length:Int) ?_
 refine avb ?_
 refine br_sel h (fun _ h=>?_) (fun _ h=>?_)
 ·refine avb ?_
  cases h;exact eq_by
 ·refine ab0 ?_
  obtain ⟨zt3,h,gt3⟩:=cutb_some h
  refine W.r_cut (fun (t3:Int)=>⟨[(1,.d (D.i t3))],[],1000⟩) (fun t=>.nx t=zt3) ?_ ?_
  ·refine avb ?_
   refine loop_lp (fun (p1:Int×Int)=>⟨[(0,.d (D.sl 4 (List.map Gx.Entry.enc v0))),(1,.d (D.i p1.1)),(5,.d (D.i p1.2))],[],1000⟩) h ?_ ?_
   ·exact weak_by
   intro np1 p1 yp1 h hfp1
   unfold l_szEntryS_L1 at h
   refine avb ?_
   refine lns (v0.length:Int) ?_
   refine avb ?_
   refine brb h ?_ ?_<;>intro _ h
   ·refine idx_sel h (fun x1 hx1 h=>?_)
    refine avb ?_
    refine plb ?_;refine call_sel (E:=fun (x:Int)=>DV.one (D.i x)) h (fun x2 h1=>(l_szEntry_ok N x1 p1.1 h1)) (fun x2 hx2 h=>?_)
    refine avb ?_
    refine brb h ?_ ?_<;>intro _ h
    ·have h:=finr hfp1 h
     have h:=cutr gt3 h
     cases h;exact eq_by
    ·exact lbk hfp1 h
   ·have h:=finr hfp1 h
    refine cut_at (p1.1) (some_in h) ?_
    exact weak_by
  rintro t3 rfl
  have h:_=some _:=gt3
  refine avb ?_
  cases h;exact eq_by

theorem l_szHouse_ok (N:Nat) (v0:Gx.House) (v1:Int) {r:Int} (h:l_szHouse N v0 v1=some r):Pure Tryz.prog 7 [DV.agg (Gx.House.enc v0),DV.one (D.i v1)] (DV.one (D.i r)):=by
 refine pure_of_walk Tryz.tok Tryz.mixed Tryz.func7 (by kernel_rfl) fun W=>?_
 unfold l_szHouse at h
 refine avb ?_
 refine plb ?_;refine call_sel (E:=fun (x:Int)=>DV.one (D.i x)) h (fun x1 h1=>(l_szListedS_ok N v0.mList v1 h1)) (fun x1 hx1 h=>?_)
 refine avb ?_
 refine brb h ?_ ?_<;>intro _ h
 ·cases h;exact eq_by
 ·refine plb ?_;refine call_sel (E:=fun (x:Int)=>DV.one (D.i x)) h (fun x2 h1=>(l_szMeaningS_ok N v0.mDict x1 h1)) (fun x2 hx2 h=>?_)
  refine avb ?_
  refine brb h ?_ ?_<;>intro _ h
  ·cases h;exact eq_by
  ·refine plb ?_;refine call_sel (E:=fun (x:Int)=>DV.one (D.i x)) h (fun x3 h1=>(l_szDraft_ok N v0.mDesk x2 h1)) (fun x3 hx3 h=>?_)
   refine avb ?_
   refine brb h ?_ ?_<;>intro _ h
   ·cases h;exact eq_by
   ·refine plb ?_;refine call_sel (E:=fun (x:Int)=>DV.one (D.i x)) h (fun x4 h1=>(l_szIssueS_ok N v0.mIssues x3 h1)) (fun x4 hx4 h=>?_)
    refine avb ?_
    refine brb h ?_ ?_<;>intro _ h
    ·cases h;exact eq_by
    ·refine plb ?_;refine call_sel (E:=fun (x:Int)=>DV.one (D.i x)) h (fun x5 h1=>(l_szUsedS_ok N v0.mUses x4 h1)) (fun x5 hx5 h=>?_)
     refine avb ?_
     refine brb h ?_ ?_<;>intro _ h
     ·cases h;exact eq_by
     ·refine plb ?_;refine call_sel (E:=fun (x:Int)=>DV.one (D.i x)) h (fun x6 h1=>(l_szCorrectionS_ok N v0.mCorrections x5 h1)) (fun x6 hx6 h=>?_)
      refine avb ?_
      refine brb h ?_ ?_<;>intro _ h
      ·cases h;exact eq_by
      ·refine plb ?_;refine call_sel (E:=fun (x:Int)=>DV.one (D.i x)) h (fun x7 h1=>(l_szEntryS_ok N v0.mEntries x6 h1)) (fun x7 hx7 h=>?_)
       refine avb ?_
       refine brb h ?_ ?_<;>intro _ h
       ·cases h;exact eq_by
       ·cases h;exact eq_by

theorem l_toListed_ok (N:Nat) (v0:Gx.Listed) {r:Gx.Listed} (h:l_toListed N v0=some r):Pure Tryz.prog 15 [DV.agg (Gx.Listed.enc v0)] (DV.agg (Gx.Listed.enc r)):=by
 refine pure_of_walk Tryz.tok Tryz.mixed Tryz.func15 (by kernel_rfl) fun W=>?_
 unfold l_toListed at h
 refine avb ?_
 cases h;exact eq_by

theorem l_toListedS_ok (N:Nat) (v0:List (Gx.Listed)) {r:(List (Gx.Listed))} (h:l_toListedS N v0=some r):Pure Tryz.prog 33 [DV.one (D.sl 4 (List.map Gx.Listed.enc v0))] (DV.one (D.sl 4 (List.map Gx.Listed.enc r))):=by
 refine pure_of_walk Tryz.tok Tryz.mixed Tryz.func33 (by kernel_rfl) fun W=>?_
 unfold l_toListedS at h
 refine avb ?_
 refine lns (v0.length:Int) ?_
 refine avb ?_
 refine chk_sel h (fun q=>mks_ok q (by decide)) (fun h=>?_)
 refine ab0 ?_
 obtain ⟨zt4,h,gt4⟩:=bnd_some h
 refine W.r_cut (fun (t4:(List (Gx.Listed)))=>⟨[(3,.sl 1)],[(1,some (.arr 4 (List.map Gx.Listed.enc t4) true))],1000⟩) (fun t=>t=zt4) ?_ ?_
 ·refine avb ?_
  refine loop_lp (fun (p1:(List (Gx.Listed))×Int)=>⟨[(0,.d (D.sl 4 (List.map Gx.Listed.enc v0))),(3,.sl 1),(4,.d (D.i p1.2))],[(1,some (.arr 4 (List.map Gx.Listed.enc p1.1) true))],1000⟩) h ?_ ?_
  ·exact weak_by
  intro np1 p1 yp1 h hfp1
  unfold l_toListedS_L1 at h
  refine avb ?_
  refine lns (v0.length:Int) ?_
  refine avb ?_
  refine brb h ?_ ?_<;>intro _ h
  ·refine idx_sel h (fun x1 hx1 h=>?_)
   refine avb ?_
   refine plb ?_;refine call_sel (E:=fun (x:Gx.Listed)=>DV.agg (Gx.Listed.enc x)) h (fun x2 h1=>(l_toListed_ok N x1 h1)) (fun x2 hx2 h=>?_)
   refine avb ?_
   refine idxp_sel h (fun x3 hx3 h=>?_)
   refine avb ?_
   refine ldp_sel hx3 ?_
   refine avb ?_
   exact lbk hfp1 h
  ·have h:=finr hfp1 h
   refine cut_at (p1.1) (some_in h) ?_
   exact weak_by
 rintro t4 rfl
 have h:_=some _:=gt4
 refine avb ?_
 cases h;exact eq_by

theorem l_toMeaning_ok (N:Nat) (v0:Gx.Meaning) {r:Gx.Meaning} (h:l_toMeaning N v0=some r):Pure Tryz.prog 16 [DV.agg (Gx.Meaning.enc v0)] (DV.agg (Gx.Meaning.enc r)):=by
 refine pure_of_walk Tryz.tok Tryz.mixed Tryz.func16 (by kernel_rfl) fun W=>?_
 unfold l_toMeaning at h
 refine avb ?_
 cases h;exact eq_by

theorem l_toMeaningS_ok (N:Nat) (v0:List (Gx.Meaning)) {r:(List (Gx.Meaning))} (h:l_toMeaningS N v0=some r):Pure Tryz.prog 34 [DV.one (D.sl 2 (List.map Gx.Meaning.enc v0))] (DV.one (D.sl 2 (List.map Gx.Meaning.enc r))):=by
 refine pure_of_walk Tryz.tok Tryz.mixed Tryz.func34 (by kernel_rfl) fun W=>?_
 unfold l_toMeaningS at h
 refine avb ?_
 refine lns (v0.length:Int) ?_
 refine avb ?_
 refine chk_sel h (fun q=>mks_ok q (by decide)) (fun h=>?_)
 refine ab0 ?_
 obtain ⟨zt4,h,gt4⟩:=bnd_some h
 refine W.r_cut (fun (t4:(List (Gx.Meaning)))=>⟨[(3,.sl 1)],[(1,some (.arr 2 (List.map Gx.Meaning.enc t4) true))],1000⟩) (fun t=>t=zt4) ?_ ?_
 ·refine avb ?_
  refine loop_lp (fun (p1:(List (Gx.Meaning))×Int)=>⟨[(0,.d (D.sl 2 (List.map Gx.Meaning.enc v0))),(3,.sl 1),(4,.d (D.i p1.2))],[(1,some (.arr 2 (List.map Gx.Meaning.enc p1.1) true))],1000⟩) h ?_ ?_
  ·exact weak_by
  intro np1 p1 yp1 h hfp1
  unfold l_toMeaningS_L1 at h
  refine avb ?_
  refine lns (v0.length:Int) ?_
  refine avb ?_
  refine brb h ?_ ?_<;>intro _ h
  ·refine idx_sel h (fun x1 hx1 h=>?_)
   refine avb ?_
   refine plb ?_;refine call_sel (E:=fun (x:Gx.Meaning)=>DV.agg (Gx.Meaning.enc x)) h (fun x2 h1=>(l_toMeaning_ok N x1 h1)) (fun x2 hx2 h=>?_)
   refine avb ?_
   refine idxp_sel h (fun x3 hx3 h=>?_)
   refine avb ?_
   refine ldp_sel hx3 ?_
   refine avb ?_
   exact lbk hfp1 h
  ·have h:=finr hfp1 h
   refine cut_at (p1.1) (some_in h) ?_
   exact weak_by
 rintro t4 rfl
 have h:_=some _:=gt4
 refine avb ?_
 cases h;exact eq_by

theorem l_toGrid_ok (N:Nat) (v0:Gx.Grid) {r:Gx.Grid} (h:l_toGrid N v0=some r):Pure Tryz.prog 89 [DV.agg (Gx.Grid.enc v0)] (DV.agg (Gx.Grid.enc r)):=by
 refine pure_of_walk Tryz.tok Tryz.mixed Tryz.func89 (by kernel_rfl) fun W=>?_
 unfold l_toGrid at h
 refine avb ?_
 cases h;exact eq_by

theorem l_toStep_ok (N:Nat) (v0:Gx.Step) {r:Gx.Step} (h:l_toStep N v0=some r):Pure Tryz.prog 247 [DV.agg (Gx.Step.enc v0)] (DV.agg (Gx.Step.enc r)):=by
 refine pure_of_walk Tryz.tok Tryz.mixed Tryz.func247 (by kernel_rfl) fun W=>?_
 unfold l_toStep at h
 refine avb ?_
 cases h;exact eq_by

theorem l_toStepS_ok (N:Nat) (v0:List (Gx.Step)) {r:(List (Gx.Step))} (h:l_toStepS N v0=some r):Pure Tryz.prog 207 [DV.one (D.sl 4 (List.map Gx.Step.enc v0))] (DV.one (D.sl 4 (List.map Gx.Step.enc r))):=by
 refine pure_of_walk Tryz.tok Tryz.mixed Tryz.func207 (by kernel_rfl) fun W=>?_
 unfold l_toStepS at h
 refine avb ?_
 refine lns (v0.length:Int) ?_
 refine avb ?_
 refine chk_sel h (fun q=>mks_ok q (by decide)) (fun h=>?_)
 refine ab0 ?_
 obtain ⟨zt4,h,gt4⟩:=bnd_some h
 refine W.r_cut (fun (t4:(List (Gx.Step)))=>⟨[(3,.sl 1)],[(1,some (.arr 4 (List.map Gx.Step.enc t4) true))],1000⟩) (fun t=>t=zt4) ?_ ?_
 ·refine avb ?_
  refine loop_lp (fun (p1:(List (Gx.Step))×Int)=>⟨[(0,.d (D.sl 4 (List.map Gx.Step.enc v0))),(3,.sl 1),(4,.d (D.i p1.2))],[(1,some (.arr 4 (List.map Gx.Step.enc p1.1) true))],1000⟩) h ?_ ?_
  ·exact weak_by
  intro np1 p1 yp1 h hfp1
  unfold l_toStepS_L1 at h
  refine avb ?_
  refine lns (v0.length:Int) ?_
  refine avb ?_
  refine brb h ?_ ?_<;>intro _ h
  ·refine idx_sel h (fun x1 hx1 h=>?_)
   refine avb ?_
   refine plb ?_;refine call_sel (E:=fun (x:Gx.Step)=>DV.agg (Gx.Step.enc x)) h (fun x2 h1=>(l_toStep_ok N x1 h1)) (fun x2 hx2 h=>?_)
   refine avb ?_
   refine idxp_sel h (fun x3 hx3 h=>?_)
   refine avb ?_
   refine ldp_sel hx3 ?_
   refine avb ?_
   exact lbk hfp1 h
  ·have h:=finr hfp1 h
   refine cut_at (p1.1) (some_in h) ?_
   exact weak_by
 rintro t4 rfl
 have h:_=some _:=gt4
 refine avb ?_
 cases h;exact eq_by

theorem l_toClue_ok (N:Nat) (v0:Gx.Clue) {r:Gx.Clue} (h:l_toClue N v0=some r):Pure Tryz.prog 164 [DV.agg (Gx.Clue.enc v0)] (DV.agg (Gx.Clue.enc r)):=by
 refine pure_of_walk Tryz.tok Tryz.mixed Tryz.func164 (by kernel_rfl) fun W=>?_
 unfold l_toClue at h
 refine avb ?_
 refine plb ?_;refine call_sel (E:=fun (x:(List (Gx.Step)))=>DV.one (D.sl 4 (List.map Gx.Step.enc x))) h (fun x1 h1=>(l_toStepS_ok N v0.mPlay h1)) (fun x1 hx1 h=>?_)
 refine avb ?_
 cases h;exact eq_by

theorem l_toClueS_ok (N:Nat) (v0:List (Gx.Clue)) {r:(List (Gx.Clue))} (h:l_toClueS N v0=some r):Pure Tryz.prog 90 [DV.one (D.sl 2 (List.map Gx.Clue.enc v0))] (DV.one (D.sl 2 (List.map Gx.Clue.enc r))):=by
 refine pure_of_walk Tryz.tok Tryz.mixed Tryz.func90 (by kernel_rfl) fun W=>?_
 unfold l_toClueS at h
 refine avb ?_
 refine lns (v0.length:Int) ?_
 refine avb ?_
 refine chk_sel h (fun q=>mks_ok q (by decide)) (fun h=>?_)
 refine ab0 ?_
 obtain ⟨zt4,h,gt4⟩:=bnd_some h
 refine W.r_cut (fun (t4:(List (Gx.Clue)))=>⟨[(3,.sl 1)],[(1,some (.arr 2 (List.map Gx.Clue.enc t4) true))],1000⟩) (fun t=>t=zt4) ?_ ?_
 ·refine avb ?_
  refine loop_lp (fun (p1:(List (Gx.Clue))×Int)=>⟨[(0,.d (D.sl 2 (List.map Gx.Clue.enc v0))),(3,.sl 1),(4,.d (D.i p1.2))],[(1,some (.arr 2 (List.map Gx.Clue.enc p1.1) true))],1000⟩) h ?_ ?_
  ·exact weak_by
  intro np1 p1 yp1 h hfp1
  unfold l_toClueS_L1 at h
  refine avb ?_
  refine lns (v0.length:Int) ?_
  refine avb ?_
  refine brb h ?_ ?_<;>intro _ h
  ·refine idx_sel h (fun x1 hx1 h=>?_)
   refine avb ?_
   refine plb ?_;refine call_sel (E:=fun (x:Gx.Clue)=>DV.agg (Gx.Clue.enc x)) h (fun x2 h1=>(l_toClue_ok N x1 h1)) (fun x2 hx2 h=>?_)
   refine avb ?_
   refine idxp_sel h (fun x3 hx3 h=>?_)
   refine avb ?_
   refine ldp_sel hx3 ?_
   refine avb ?_
   exact lbk hfp1 h
  ·have h:=finr hfp1 h
   refine cut_at (p1.1) (some_in h) ?_
   exact weak_by
 rintro t4 rfl
 have h:_=some _:=gt4
 refine avb ?_
 cases h;exact eq_by

theorem l_toDraft_ok (N:Nat) (v0:Gx.Draft) {r:Gx.Draft} (h:l_toDraft N v0=some r):Pure Tryz.prog 35 [DV.agg (Gx.Draft.enc v0)] (DV.agg (Gx.Draft.enc r)):=by
 refine pure_of_walk Tryz.tok Tryz.mixed Tryz.func35 (by kernel_rfl) fun W=>?_
 unfold l_toDraft at h
 refine avb ?_
 refine plb ?_;refine call_sel (E:=fun (x:Gx.Grid)=>DV.agg (Gx.Grid.enc x)) h (fun x1 h1=>(l_toGrid_ok N v0.mGrid h1)) (fun x1 hx1 h=>?_)
 refine avb ?_
 refine plb ?_;refine call_sel (E:=fun (x:(List (Gx.Clue)))=>DV.one (D.sl 2 (List.map Gx.Clue.enc x))) h (fun x2 h1=>(l_toClueS_ok N v0.mClues h1)) (fun x2 hx2 h=>?_)
 refine avb ?_
 cases h;exact eq_by

theorem l_toIntS_ok (N:Nat) (v0:List (Int)) {r:(List (Int))} (h:l_toIntS N v0=some r):Pure Tryz.prog 208 [DV.one (D.sl 1 (List.map Gx.encI v0))] (DV.one (D.sl 1 (List.map Gx.encI r))):=by
 refine pure_of_walk Tryz.tok Tryz.mixed Tryz.func208 (by kernel_rfl) fun W=>?_
 unfold l_toIntS at h
 refine avb ?_
 refine lns (v0.length:Int) ?_
 refine avb ?_
 refine chk_sel h (fun q=>mks_ok q (by decide)) (fun h=>?_)
 refine ab0 ?_
 obtain ⟨zt3,h,gt3⟩:=bnd_some h
 refine W.r_cut (fun (t3:(List (Int)))=>⟨[(3,.sl 1)],[(1,some (.arr 1 (List.map Gx.encI t3) true))],1000⟩) (fun t=>t=zt3) ?_ ?_
 ·refine avb ?_
  refine loop_lp (fun (p1:(List (Int))×Int)=>⟨[(0,.d (D.sl 1 (List.map Gx.encI v0))),(3,.sl 1),(4,.d (D.i p1.2))],[(1,some (.arr 1 (List.map Gx.encI p1.1) true))],1000⟩) h ?_ ?_
  ·exact weak_by
  intro np1 p1 yp1 h hfp1
  unfold l_toIntS_L1 at h
  refine avb ?_
  refine lns (v0.length:Int) ?_
  refine avb ?_
  refine brb h ?_ ?_<;>intro _ h
  ·refine idx_sel h (fun x1 hx1 h=>?_)
   refine avb ?_
   refine idxp_sel h (fun x2 hx2 h=>?_)
   refine avb ?_
   refine ldp_sel hx2 ?_
   refine avb ?_
   exact lbk hfp1 h
  ·have h:=finr hfp1 h
   refine cut_at (p1.1) (some_in h) ?_
   exact weak_by
 rintro t3 rfl
 have h:_=some _:=gt3
 refine avb ?_
 cases h;exact eq_by

theorem l_toPuzzle_ok (N:Nat) (v0:Gx.Puzzle) {r:Gx.Puzzle} (h:l_toPuzzle N v0=some r):Pure Tryz.prog 165 [DV.agg (Gx.Puzzle.enc v0)] (DV.agg (Gx.Puzzle.enc r)):=by
 refine pure_of_walk Tryz.tok Tryz.mixed Tryz.func165 (by kernel_rfl) fun W=>?_
 unfold l_toPuzzle at h
 refine avb ?_
 refine plb ?_;refine call_sel (E:=fun (x:Gx.Grid)=>DV.agg (Gx.Grid.enc x)) h (fun x1 h1=>(l_toGrid_ok N v0.mGrid h1)) (fun x1 hx1 h=>?_)
 refine avb ?_
 refine plb ?_;refine call_sel (E:=fun (x:(List (Gx.Clue)))=>DV.one (D.sl 2 (List.map Gx.Clue.enc x))) h (fun x2 h1=>(l_toClueS_ok N v0.mClues h1)) (fun x2 hx2 h=>?_)
 refine avb ?_
 refine plb ?_;refine call_sel (E:=fun (x:(List (Int)))=>DV.one (D.sl 1 (List.map Gx.encI x))) h (fun x3 h1=>(l_toIntS_ok N v0.mSeals h1)) (fun x3 hx3 h=>?_)
 refine avb ?_
 cases h;exact eq_by

theorem l_toIssue_ok (N:Nat) (v0:Gx.Issue) {r:Gx.Issue} (h:l_toIssue N v0=some r):Pure Tryz.prog 91 [DV.agg (Gx.Issue.enc v0)] (DV.agg (Gx.Issue.enc r)):=by
 refine pure_of_walk Tryz.tok Tryz.mixed Tryz.func91 (by kernel_rfl) fun W=>?_
 unfold l_toIssue at h
 refine avb ?_
 refine plb ?_;refine call_sel (E:=fun (x:Gx.Puzzle)=>DV.agg (Gx.Puzzle.enc x)) h (fun x1 h1=>(l_toPuzzle_ok N v0.mPuzzle h1)) (fun x1 hx1 h=>?_)
 refine avb ?_
 cases h;exact eq_by

theorem l_toIssueS_ok (N:Nat) (v0:List (Gx.Issue)) {r:(List (Gx.Issue))} (h:l_toIssueS N v0=some r):Pure Tryz.prog 36 [DV.one (D.sl 10 (List.map Gx.Issue.enc v0))] (DV.one (D.sl 10 (List.map Gx.Issue.enc r))):=by
 refine pure_of_walk Tryz.tok Tryz.mixed Tryz.func36 (by kernel_rfl) fun W=>?_
 unfold l_toIssueS at h
 refine avb ?_
 refine lns (v0.length:Int) ?_
 refine avb ?_
 refine chk_sel h (fun q=>mks_ok q (by decide)) (fun h=>?_)
 refine ab0 ?_
 obtain ⟨zt4,h,gt4⟩:=bnd_some h
 refine W.r_cut (fun (t4:(List (Gx.Issue)))=>⟨[(3,.sl 1)],[(1,some (.arr 10 (List.map Gx.Issue.enc t4) true))],1000⟩) (fun t=>t=zt4) ?_ ?_
 ·refine avb ?_
  refine loop_lp (fun (p1:(List (Gx.Issue))×Int)=>⟨[(0,.d (D.sl 10 (List.map Gx.Issue.enc v0))),(3,.sl 1),(4,.d (D.i p1.2))],[(1,some (.arr 10 (List.map Gx.Issue.enc p1.1) true))],1000⟩) h ?_ ?_
  ·exact weak_by
  intro np1 p1 yp1 h hfp1
  unfold l_toIssueS_L1 at h
  refine avb ?_
  refine lns (v0.length:Int) ?_
  refine avb ?_
  refine brb h ?_ ?_<;>intro _ h
  ·refine idx_sel h (fun x1 hx1 h=>?_)
   refine avb ?_
   refine plb ?_;refine call_sel (E:=fun (x:Gx.Issue)=>DV.agg (Gx.Issue.enc x)) h (fun x2 h1=>(l_toIssue_ok N x1 h1)) (fun x2 hx2 h=>?_)
   refine avb ?_
   refine idxp_sel h (fun x3 hx3 h=>?_)
   refine avb ?_
   refine ldp_sel hx3 ?_
   refine avb ?_
   exact lbk hfp1 h
  ·have h:=finr hfp1 h
   refine cut_at (p1.1) (some_in h) ?_
   exact weak_by
 rintro t4 rfl
 have h:_=some _:=gt4
 refine avb ?_
 cases h;exact eq_by

theorem l_toUsed_ok (N:Nat) (v0:Gx.Used) {r:Gx.Used} (h:l_toUsed N v0=some r):Pure Tryz.prog 92 [DV.agg (Gx.Used.enc v0)] (DV.agg (Gx.Used.enc r)):=by
 refine pure_of_walk Tryz.tok Tryz.mixed Tryz.func92 (by kernel_rfl) fun W=>?_
 unfold l_toUsed at h
 refine avb ?_
 cases h;exact eq_by

theorem l_toUsedS_ok (N:Nat) (v0:List (Gx.Used)) {r:(List (Gx.Used))} (h:l_toUsedS N v0=some r):Pure Tryz.prog 37 [DV.one (D.sl 2 (List.map Gx.Used.enc v0))] (DV.one (D.sl 2 (List.map Gx.Used.enc r))):=by
 refine pure_of_walk Tryz.tok Tryz.mixed Tryz.func37 (by kernel_rfl) fun W=>?_
 unfold l_toUsedS at h
 refine avb ?_
 refine lns (v0.length:Int) ?_
 refine avb ?_
 refine chk_sel h (fun q=>mks_ok q (by decide)) (fun h=>?_)
 refine ab0 ?_
 obtain ⟨zt4,h,gt4⟩:=bnd_some h
 refine W.r_cut (fun (t4:(List (Gx.Used)))=>⟨[(3,.sl 1)],[(1,some (.arr 2 (List.map Gx.Used.enc t4) true))],1000⟩) (fun t=>t=zt4) ?_ ?_
 ·refine avb ?_
  refine loop_lp (fun (p1:(List (Gx.Used))×Int)=>⟨[(0,.d (D.sl 2 (List.map Gx.Used.enc v0))),(3,.sl 1),(4,.d (D.i p1.2))],[(1,some (.arr 2 (List.map Gx.Used.enc p1.1) true))],1000⟩) h ?_ ?_
  ·exact weak_by
  intro np1 p1 yp1 h hfp1
  unfold l_toUsedS_L1 at h
  refine avb ?_
  refine lns (v0.length:Int) ?_
  refine avb ?_
  refine brb h ?_ ?_<;>intro _ h
  ·refine idx_sel h (fun x1 hx1 h=>?_)
   refine avb ?_
   refine plb ?_;refine call_sel (E:=fun (x:Gx.Used)=>DV.agg (Gx.Used.enc x)) h (fun x2 h1=>(l_toUsed_ok N x1 h1)) (fun x2 hx2 h=>?_)
   refine avb ?_
   refine idxp_sel h (fun x3 hx3 h=>?_)
   refine avb ?_
   refine ldp_sel hx3 ?_
   refine avb ?_
   exact lbk hfp1 h
  ·have h:=finr hfp1 h
   refine cut_at (p1.1) (some_in h) ?_
   exact weak_by
 rintro t4 rfl
 have h:_=some _:=gt4
 refine avb ?_
 cases h;exact eq_by

theorem l_toCorrection_ok (N:Nat) (v0:Gx.Correction) {r:Gx.Correction} (h:l_toCorrection N v0=some r):Pure Tryz.prog 93 [DV.agg (Gx.Correction.enc v0)] (DV.agg (Gx.Correction.enc r)):=by
 refine pure_of_walk Tryz.tok Tryz.mixed Tryz.func93 (by kernel_rfl) fun W=>?_
 unfold l_toCorrection at h
 refine avb ?_
 refine plb ?_;refine call_sel (E:=fun (x:Gx.Clue)=>DV.agg (Gx.Clue.enc x)) h (fun x1 h1=>(l_toClue_ok N v0.mClue h1)) (fun x1 hx1 h=>?_)
 refine avb ?_
 cases h;exact eq_by

theorem l_toCorrectionS_ok (N:Nat) (v0:List (Gx.Correction)) {r:(List (Gx.Correction))} (h:l_toCorrectionS N v0=some r):Pure Tryz.prog 38 [DV.one (D.sl 5 (List.map Gx.Correction.enc v0))] (DV.one (D.sl 5 (List.map Gx.Correction.enc r))):=by
 refine pure_of_walk Tryz.tok Tryz.mixed Tryz.func38 (by kernel_rfl) fun W=>?_
 unfold l_toCorrectionS at h
 refine avb ?_
 refine lns (v0.length:Int) ?_
 refine avb ?_
 refine chk_sel h (fun q=>mks_ok q (by decide)) (fun h=>?_)
 refine ab0 ?_
 obtain ⟨zt4,h,gt4⟩:=bnd_some h
 refine W.r_cut (fun (t4:(List (Gx.Correction)))=>⟨[(3,.sl 1)],[(1,some (.arr 5 (List.map Gx.Correction.enc t4) true))],1000⟩) (fun t=>t=zt4) ?_ ?_
 ·refine avb ?_
  refine loop_lp (fun (p1:(List (Gx.Correction))×Int)=>⟨[(0,.d (D.sl 5 (List.map Gx.Correction.enc v0))),(3,.sl 1),(4,.d (D.i p1.2))],[(1,some (.arr 5 (List.map Gx.Correction.enc p1.1) true))],1000⟩) h ?_ ?_
  ·exact weak_by
  intro np1 p1 yp1 h hfp1
  unfold l_toCorrectionS_L1 at h
  refine avb ?_
  refine lns (v0.length:Int) ?_
  refine avb ?_
  refine brb h ?_ ?_<;>intro _ h
  ·refine idx_sel h (fun x1 hx1 h=>?_)
   refine avb ?_
   refine plb ?_;refine call_sel (E:=fun (x:Gx.Correction)=>DV.agg (Gx.Correction.enc x)) h (fun x2 h1=>(l_toCorrection_ok N x1 h1)) (fun x2 hx2 h=>?_)
   refine avb ?_
   refine idxp_sel h (fun x3 hx3 h=>?_)
   refine avb ?_
   refine ldp_sel hx3 ?_
   refine avb ?_
   exact lbk hfp1 h
  ·have h:=finr hfp1 h
   refine cut_at (p1.1) (some_in h) ?_
   exact weak_by
 rintro t4 rfl
 have h:_=some _:=gt4
 refine avb ?_
 cases h;exact eq_by

theorem l_toEntry_ok (N:Nat) (v0:Gx.Entry) {r:Gx.Entry} (h:l_toEntry N v0=some r):Pure Tryz.prog 94 [DV.agg (Gx.Entry.enc v0)] (DV.agg (Gx.Entry.enc r)):=by
 refine pure_of_walk Tryz.tok Tryz.mixed Tryz.func94 (by kernel_rfl) fun W=>?_
 unfold l_toEntry at h
 refine avb ?_
 cases h;exact eq_by

theorem l_toEntryS_ok (N:Nat) (v0:List (Gx.Entry)) {r:(List (Gx.Entry))} (h:l_toEntryS N v0=some r):Pure Tryz.prog 39 [DV.one (D.sl 4 (List.map Gx.Entry.enc v0))] (DV.one (D.sl 4 (List.map Gx.Entry.enc r))):=by
 refine pure_of_walk Tryz.tok Tryz.mixed Tryz.func39 (by kernel_rfl) fun W=>?_
 unfold l_toEntryS at h
 refine avb ?_
 refine lns (v0.length:Int) ?_
 refine avb ?_
 refine chk_sel h (fun q=>mks_ok q (by decide)) (fun h=>?_)
 refine ab0 ?_
 obtain ⟨zt4,h,gt4⟩:=bnd_some h
 refine W.r_cut (fun (t4:(List (Gx.Entry)))=>⟨[(3,.sl 1)],[(1,some (.arr 4 (List.map Gx.Entry.enc t4) true))],1000⟩) (fun t=>t=zt4) ?_ ?_
 ·refine avb ?_
  refine loop_lp (fun (p1:(List (Gx.Entry))×Int)=>⟨[(0,.d (D.sl 4 (List.map Gx.Entry.enc v0))),(3,.sl 1),(4,.d (D.i p1.2))],[(1,some (.arr 4 (List.map Gx.Entry.enc p1.1) true))],1000⟩) h ?_ ?_
  ·exact weak_by
  intro np1 p1 yp1 h hfp1
  unfold l_toEntryS_L1 at h
  refine avb ?_
  refine lns (v0.length:Int) ?_
  refine avb ?_
  refine brb h ?_ ?_<;>intro _ h
  ·refine idx_sel h (fun x1 hx1 h=>?_)
   refine avb ?_
   refine plb ?_;refine call_sel (E:=fun (x:Gx.Entry)=>DV.agg (Gx.Entry.enc x)) h (fun x2 h1=>(l_toEntry_ok N x1 h1)) (fun x2 hx2 h=>?_)
   refine avb ?_
   refine idxp_sel h (fun x3 hx3 h=>?_)
   refine avb ?_
   refine ldp_sel hx3 ?_
   refine avb ?_
   exact lbk hfp1 h
  ·have h:=finr hfp1 h
   refine cut_at (p1.1) (some_in h) ?_
   exact weak_by
 rintro t4 rfl
 have h:_=some _:=gt4
 refine avb ?_
 cases h;exact eq_by

theorem l_toHouse_ok (N:Nat) (v0:Gx.House) {r:Gx.House} (h:l_toHouse N v0=some r):Pure Tryz.prog 9 [DV.agg (Gx.House.enc v0)] (DV.agg (Gx.House.enc r)):=by
 refine pure_of_walk Tryz.tok Tryz.mixed Tryz.func9 (by kernel_rfl) fun W=>?_
 unfold l_toHouse at h
 refine avb ?_
 refine plb ?_;refine call_sel (E:=fun (x:(List (Gx.Listed)))=>DV.one (D.sl 4 (List.map Gx.Listed.enc x))) h (fun x1 h1=>(l_toListedS_ok N v0.mList h1)) (fun x1 hx1 h=>?_)
 refine avb ?_
 refine plb ?_;refine call_sel (E:=fun (x:(List (Gx.Meaning)))=>DV.one (D.sl 2 (List.map Gx.Meaning.enc x))) h (fun x2 h1=>(l_toMeaningS_ok N v0.mDict h1)) (fun x2 hx2 h=>?_)
 refine avb ?_
 refine plb ?_;refine call_sel (E:=fun (x:Gx.Draft)=>DV.agg (Gx.Draft.enc x)) h (fun x3 h1=>(l_toDraft_ok N v0.mDesk h1)) (fun x3 hx3 h=>?_)
 refine avb ?_
 refine plb ?_;refine call_sel (E:=fun (x:(List (Gx.Issue)))=>DV.one (D.sl 10 (List.map Gx.Issue.enc x))) h (fun x4 h1=>(l_toIssueS_ok N v0.mIssues h1)) (fun x4 hx4 h=>?_)
 refine avb ?_
 refine plb ?_;refine call_sel (E:=fun (x:(List (Gx.Used)))=>DV.one (D.sl 2 (List.map Gx.Used.enc x))) h (fun x5 h1=>(l_toUsedS_ok N v0.mUses h1)) (fun x5 hx5 h=>?_)
 refine avb ?_
 refine plb ?_;refine call_sel (E:=fun (x:(List (Gx.Correction)))=>DV.one (D.sl 5 (List.map Gx.Correction.enc x))) h (fun x6 h1=>(l_toCorrectionS_ok N v0.mCorrections h1)) (fun x6 hx6 h=>?_)
 refine avb ?_
 refine plb ?_;refine call_sel (E:=fun (x:(List (Gx.Entry)))=>DV.one (D.sl 4 (List.map Gx.Entry.enc x))) h (fun x7 h1=>(l_toEntryS_ok N v0.mEntries h1)) (fun x7 hx7 h=>?_)
 refine avb ?_
 cases h;exact eq_by

theorem s_l1In_ok (N:Nat) (v0:Int) (v1:Int) (v2:Int) {r:Bool} (h:s_l1In N v0 v1 v2=some r):Pure Tryz.prog 146 [DV.one (D.i v0),DV.one (D.i v1),DV.one (D.i v2)] (DV.one (D.b r)):=by
 refine pure_of_walk Tryz.tok Tryz.mixed Tryz.func146 (by kernel_rfl) fun W=>?_
 unfold s_l1In at h
 refine avb ?_
 refine brb h ?_ ?_<;>intro _ h
 ·cases h;exact eq_by
 ·cases h;exact eq_by

theorem s_IsGrid_ok (N:Nat) (v0:Gx.Grid) {r:Bool} (h:s_IsGrid N v0=some r):Pure Tryz.prog 187 [DV.agg (Gx.Grid.enc v0)] (DV.one (D.b r)):=by
 refine pure_of_walk Tryz.tok Tryz.mixed Tryz.func187 (by kernel_rfl) fun W=>?_
 unfold s_IsGrid at h
 refine avb ?_
 refine plb ?_;refine call_sel (E:=fun (x:Bool)=>DV.one (D.b x)) h (fun x1 h1=>(s_l1In_ok N v0.mRows 2 6 h1)) (fun x1 hx1 h=>?_)
 refine avb ?_
 refine brb h ?_ ?_<;>intro _ h
 ·cases h;exact eq_by
 ·refine plb ?_;refine call_sel (E:=fun (x:Bool)=>DV.one (D.b x)) h (fun x2 h1=>(s_l1In_ok N v0.mCols 2 6 h1)) (fun x2 hx2 h=>?_)
  refine avb ?_
  refine brb h ?_ ?_<;>intro _ h
  ·cases h;exact eq_by
  ·refine lns (v0.mCells.length:Int) ?_
   refine avb ?_
   refine br_sel h (fun _ h=>?_) (fun _ h=>?_)
   ·refine avb ?_
    cases h;exact eq_by
   ·refine ab0 ?_
    obtain ⟨zt3,h,gt3⟩:=cutb_some h
    refine W.r_cut (fun (t3:Unit)=>⟨[],[],1000⟩) (fun t=>.nx t=zt3) ?_ ?_
    ·refine avb ?_
     refine loop_lp (fun (p1:Int)=>⟨[(1,.ptr 1 0 0),(3,.d (D.i p1))],[(1,some (.box [.d (D.i v0.mRows),.d (D.i v0.mCols),.d (D.s v0.mCells)]))],1000⟩) h ?_ ?_
     ·exact weak_by
     intro np1 p1 yp1 h hfp1
     unfold s_IsGrid_L1 at h
     refine avb ?_
     refine lns (v0.mCells.length:Int) ?_
     refine avb ?_
     refine brb h ?_ ?_<;>intro _ h
     ·refine chk_sel h (fun q=>q) (fun h=>?_)
      refine avb ?_
      refine brb h ?_ ?_<;>intro _ h
      ·refine chk_sel h (fun q=>q) (fun h=>?_)
       refine avb ?_
       refine brb h ?_ ?_<;>intro _ h
       ·have h:=finr hfp1 h
        have h:=cutr gt3 h
        cases h;exact eq_by
       ·exact lbk hfp1 h
      ·exact lbk hfp1 h
     ·have h:=finr hfp1 h
      refine cut_at (()) (some_in h) ?_
      exact weak_by
    rintro t3 rfl
    have h:_=some _:=gt3
    refine avb ?_
    cases h;exact eq_by

theorem s_l8From_ok (N:Nat) (v0:Gx.Grid) (v1:Int) (v2:Bool) {r:Int} (h:s_l8From N v0 v1 v2=some r):Pure Tryz.prog 188 [DV.agg (Gx.Grid.enc v0),DV.one (D.i v1),DV.one (D.b v2)] (DV.one (D.i r)):=by
 refine pure_of_walk Tryz.tok Tryz.mixed Tryz.func188 (by kernel_rfl) fun W=>?_
 unfold s_l8From at h
 refine avb ?_
 refine chk_sel h (fun q=>q) (fun h=>?_)
 refine ab0 ?_
 refine W.r_seq ?_
 refine ab0 ?_
 obtain ⟨zt1,h,gt1⟩:=bnd_some h
 refine W.r_cut (fun (t1:Int×Int×Int)=>⟨[(1,.d (D.i v1)),(3,.ptr 1 0 0),(7,.d (D.i t1.1)),(8,.d (D.i t1.2.1)),(9,.d (D.i t1.2.2))],[(1,some (.box [.d (D.i v0.mRows),.d (D.i v0.mCols),.d (D.s v0.mCells)]))],1000⟩) (fun t=>t=zt1) ?_ ?_
 ·refine avb ?_
  refine brb h ?_ ?_<;>intro _ h
  ·refine chk_sel h (fun q=>q) (fun h=>?_)
   refine avb ?_
   refine cut_at ((v0.mCols,w64 (Int.tdiv v1 v0.mCols),v0.mRows)) (some_in h) ?_
   exact weak_by
  ·refine cut_at ((1,Int.tmod v1 v0.mCols,v0.mCols)) (some_in h) ?_
   exact weak_by
 rintro t1 rfl
 have h:_=some _:=gt1
 refine ab0 ?_
 obtain ⟨zt2,h,gt2⟩:=cutb_some h
 refine W.r_cut (fun (t2:Unit)=>⟨[(1,.d (D.i v1)),(3,.ptr 1 0 0),(7,.d (D.i t1.1)),(8,.d (D.i t1.2.1)),(9,.d (D.i t1.2.2))],[(1,some (.box [.d (D.i v0.mRows),.d (D.i v0.mCols),.d (D.s v0.mCells)]))],1000⟩) (fun t=>.nx t=zt2) ?_ ?_
 ·refine avb ?_
  refine chk_sel h (fun q=>q) (fun h=>?_)
  refine avb ?_
  refine brb h ?_ ?_<;>intro _ h
  ·have h:=cutr gt2 h
   cases h;exact eq_by
  ·refine brb h ?_ ?_<;>intro _ h
   ·refine chk_sel h (fun q=>q) (fun h=>?_)
    refine avb ?_
    refine brb h ?_ ?_<;>intro _ h
    ·have h:=cutr gt2 h
     cases h;exact eq_by
    ·refine cut_at (()) (some_in h) ?_
     exact weak_by
   ·refine cut_at (()) (some_in h) ?_
    exact weak_by
 rintro t2 rfl
 have h:_=some _:=gt2
 refine ab0 ?_
 refine W.r_seq ?_
 refine ab0 ?_
 obtain ⟨zt3,h,gt3⟩:=bnd_some h
 refine W.r_cut (fun (t3:Int)=>⟨[(10,.d (D.i t3))],[],1000⟩) (fun t=>t=zt3) ?_ ?_
 ·refine avb ?_
  refine loop_lp (fun (p1:Int)=>⟨[(1,.d (D.i v1)),(3,.ptr 1 0 0),(7,.d (D.i t1.1)),(8,.d (D.i t1.2.1)),(9,.d (D.i t1.2.2)),(10,.d (D.i p1))],[(1,some (.box [.d (D.i v0.mRows),.d (D.i v0.mCols),.d (D.s v0.mCells)]))],1000⟩) h ?_ ?_
  ·exact weak_by
  intro np1 p1 yp1 h hfp1
  unfold s_l8From_L1 at h
  refine avb ?_
  refine brb h ?_ ?_<;>intro _ h
  ·refine chk_sel h (fun q=>q) (fun h=>?_)
   refine avb ?_
   refine brb h ?_ ?_<;>intro _ h
   ·exact lbk hfp1 h
   ·have h:=finr hfp1 h
    refine cut_at (p1) (some_in h) ?_
    exact weak_by
  ·have h:=finr hfp1 h
   refine cut_at (p1) (some_in h) ?_
   exact weak_by
 rintro t3 rfl
 have h:_=some _:=gt3
 refine avb ?_
 cases h;exact eq_by

theorem s_SlotsOf_ok (N:Nat) (v0:Gx.Grid) {r:(List (Gx.Slot))} (h:s_SlotsOf N v0=some r):Pure Tryz.prog 144 [DV.agg (Gx.Grid.enc v0)] (DV.one (D.sl 4 (List.map Gx.Slot.enc r))):=by
 refine pure_of_walk Tryz.tok Tryz.mixed Tryz.func144 (by kernel_rfl) fun W=>?_
 unfold s_SlotsOf at h
 refine ab0 ?_
 refine W.r_seq ?_
 refine ab0 ?_
 refine W.r_seq ?_
 refine ab0 ?_
 refine W.r_seq ?_
 refine ab0 ?_
 obtain ⟨zt6,h,gt6⟩:=bnd_some h
 refine W.r_cut (fun (t6:(List (Gx.Slot)))=>⟨[(3,.sl 1)],[(1,some (.arr 4 (List.map Gx.Slot.enc t6) true))],1000⟩) (fun t=>t=zt6) ?_ ?_
 ·refine avb ?_
  refine loop_lp (fun (p1:(List (Gx.Slot))×Int×Int)=>⟨[(1,.ptr 1 0 0),(3,.sl 2),(4,.d (D.i p1.2.1)),(5,.d (D.i p1.2.2))],[(1,some (.box [.d (D.i v0.mRows),.d (D.i v0.mCols),.d (D.s v0.mCells)])),(2,some (.arr 4 (List.map Gx.Slot.enc p1.1) true))],1000⟩) h ?_ ?_
  ·exact weak_by
  intro np1 p1 yp1 h hfp1
  unfold s_SlotsOf_L1 at h
  refine avb ?_
  refine lns (v0.mCells.length:Int) ?_
  refine avb ?_
  refine brb h ?_ ?_<;>intro _ h
  ·refine plb ?_;refine call_sel (E:=fun (x:Bool)=>DV.one (D.b x)) h (fun x1 h1=>(s_IsGrid_ok N v0 h1)) (fun x1 hx1 h=>?_)
   refine avb ?_
   refine brb h ?_ ?_<;>intro _ h
   ·refine plb ?_;refine call_sel (E:=fun (x:Int)=>DV.one (D.i x)) h (fun x2 h1=>(s_l8From_ok N v0 p1.2.2 false h1)) (fun x2 hx2 h=>?_)
    refine avb ?_
    refine plb ?_;refine call_sel (E:=fun (x:Int)=>DV.one (D.i x)) h (fun x3 h1=>(s_l8From_ok N v0 p1.2.2 true h1)) (fun x3 hx3 h=>?_)
    refine ab0 ?_
    obtain ⟨zt4,h,gt4⟩:=bnd_some h
    refine W.r_cut (fun (t4:Int)=>⟨[(1,.ptr 1 0 0),(3,.sl 2),(4,.d (D.i t4)),(5,.d (D.i p1.2.2)),(6,.d (D.i x2)),(7,.d (D.i x3))],[(1,some (.box [.d (D.i v0.mRows),.d (D.i v0.mCols),.d (D.s v0.mCells)])),(2,some (.arr 4 (List.map Gx.Slot.enc p1.1) true))],1000⟩) (fun t=>t=zt4) ?_ ?_
    ·refine avb ?_
     refine brb h ?_ ?_<;>intro _ h
     ·refine cut_at (w64 (p1.2.1+1)) (some_in h) ?_
      exact weak_by
     ·refine brb h ?_ ?_<;>intro _ h
      ·refine cut_at (w64 (p1.2.1+1)) (some_in h) ?_
       exact weak_by
      ·refine cut_at (p1.2.1) (some_in h) ?_
       exact weak_by
    rintro t4 rfl
    have h:_=some _:=gt4
    refine ab0 ?_
    obtain ⟨zt5,h,gt5⟩:=bnd_some h
    refine W.r_cut (fun (t5:(List (Gx.Slot)))=>⟨[(1,.ptr 1 0 0),(3,.sl 2),(4,.d (D.i t4)),(5,.d (D.i p1.2.2)),(7,.d (D.i x3))],[(1,some (.box [.d (D.i v0.mRows),.d (D.i v0.mCols),.d (D.s v0.mCells)])),(2,some (.arr 4 (List.map Gx.Slot.enc t5) true))],1000⟩) (fun t=>t=zt5) ?_ ?_
    ·refine avb ?_
     refine brb h ?_ ?_<;>intro _ h
     ·refine app_sel h (app_ok (by (first|rfl|simp [sub])) (by (first|rfl|simp [sub])) (by decide)) (by (intro h;cases h)) (fun h=>?_)
      refine avb ?_
      refine cut_at (p1.1++([(⟨t4,false,p1.2.2,x2⟩:Gx.Slot)])) (some_in h) ?_
      exact weak_by
     ·refine cut_at (p1.1) (some_in h) ?_
      exact weak_by
    rintro t5 rfl
    have h:_=some _:=gt5
    refine avb ?_
    refine brb h ?_ ?_<;>intro _ h
    ·refine app_sel h (app_ok (by (first|rfl|simp [sub])) (by (first|rfl|simp [sub])) (by decide)) (by (intro h;cases h)) (fun h=>?_)
     refine avb ?_
     exact lbk hfp1 h
    ·exact lbk hfp1 h
   ·have h:=finr hfp1 h
    refine cut_at (p1.1) (some_in h) ?_
    exact weak_by
  ·have h:=finr hfp1 h
   refine cut_at (p1.1) (some_in h) ?_
   exact weak_by
 rintro t6 rfl
 have h:_=some _:=gt6
 refine avb ?_
 cases h;exact eq_by

theorem s_IsFill_ok (N:Nat) (v0:Gx.Grid) (v1:List UInt8) {r:Bool} (h:s_IsFill N v0 v1=some r):Pure Tryz.prog 145 [DV.agg (Gx.Grid.enc v0),DV.one (D.s v1)] (DV.one (D.b r)):=by
 refine pure_of_walk Tryz.tok Tryz.mixed Tryz.func145 (by kernel_rfl) fun W=>?_
 unfold s_IsFill at h
 refine avb ?_
 refine plb ?_;refine call_sel (E:=fun (x:Bool)=>DV.one (D.b x)) h (fun x1 h1=>(s_IsGrid_ok N v0 h1)) (fun x1 hx1 h=>?_)
 refine avb ?_
 refine brb h ?_ ?_<;>intro _ h
 ·cases h;exact eq_by
 ·refine lns (v1.length:Int) ?_
  refine avb ?_
  refine lns (v0.mCells.length:Int) ?_
  refine avb ?_
  refine br_sel h (fun _ h=>?_) (fun _ h=>?_)
  ·refine avb ?_
   cases h;exact eq_by
  ·refine ab0 ?_
   obtain ⟨zt3,h,gt3⟩:=cutb_some h
   refine W.r_cut (fun (t3:Unit)=>⟨[],[],1000⟩) (fun t=>.nx t=zt3) ?_ ?_
   ·refine avb ?_
    refine loop_lp (fun (p1:Int)=>⟨[(1,.d (D.s v1)),(2,.ptr 1 0 0),(5,.d (D.i p1))],[(1,some (.box [.d (D.i v0.mRows),.d (D.i v0.mCols),.d (D.s v0.mCells)]))],1000⟩) h ?_ ?_
    ·exact weak_by
    intro np1 p1 yp1 h hfp1
    unfold s_IsFill_L1 at h
    refine avb ?_
    refine lns (v1.length:Int) ?_
    refine avb ?_
    refine br_sel h (fun _ h=>?_) (fun _ h=>?_)
    ·refine ab0 ?_
     refine W.r_seq ?_
     refine ab0 ?_
     obtain ⟨zt2,h,gt2⟩:=bnd_some h
     refine W.r_cut (fun (t2:Bool)=>⟨[(1,.d (D.s v1)),(2,.ptr 1 0 0),(5,.d (D.i p1)),(6,.d (D.b t2))],[(1,some (.box [.d (D.i v0.mRows),.d (D.i v0.mCols),.d (D.s v0.mCells)]))],1000⟩) (fun t=>t=zt2) ?_ ?_
     ·refine avb ?_
      refine chk_sel h (fun q=>q) (fun h=>?_)
      refine avb ?_
      refine brb h ?_ ?_<;>intro _ h
      ·refine cut_at (true) (some_in h) ?_
       exact weak_by
      ·refine chk_sel h (fun q=>q) (fun h=>?_)
       refine avb ?_
       refine brb h ?_ ?_<;>intro _ h
       ·refine chk_sel h (fun q=>q) (fun h=>?_)
        refine avb ?_
        refine cut_at (decide ((byteI v1 p1)≤122)) (some_in h) ?_
        exact weak_by
       ·refine cut_at (false) (some_in h) ?_
        exact weak_by
     rintro t2 rfl
     have h:_=some _:=gt2
     refine avb ?_
     refine chk_sel h (fun q=>q) (fun h=>?_)
     refine avb ?_
     refine brb h ?_ ?_<;>intro _ h
     ·refine chk_sel h (fun q=>q) (fun h=>?_)
      refine avb ?_
      refine brb h ?_ ?_<;>intro _ h
      ·have h:=finr hfp1 h
       have h:=cutr gt3 h
       cases h;exact eq_by
      ·refine chk_sel h (fun q=>q) (fun h=>?_)
       refine avb ?_
       refine brb h ?_ ?_<;>intro _ h
       ·refine brb h ?_ ?_<;>intro _ h
        ·have h:=finr hfp1 h
         have h:=cutr gt3 h
         cases h;exact eq_by
        ·exact lbk hfp1 h
       ·exact lbk hfp1 h
     ·refine chk_sel h (fun q=>q) (fun h=>?_)
      refine avb ?_
      refine brb h ?_ ?_<;>intro _ h
      ·refine brb h ?_ ?_<;>intro _ h
       ·have h:=finr hfp1 h
        have h:=cutr gt3 h
        cases h;exact eq_by
       ·exact lbk hfp1 h
      ·exact lbk hfp1 h
    ·refine avb ?_
     have h:=finr hfp1 h
     refine cut_at (()) (some_in h) ?_
     exact weak_by
   rintro t3 rfl
   have h:_=some _:=gt3
   refine avb ?_
   cases h;exact eq_by

theorem s_CellsOf_ok (N:Nat) (v0:Gx.Grid) (v1:Gx.Slot) {r:(List (Int))} (h:s_CellsOf N v0 v1=some r):Pure Tryz.prog 147 [DV.agg (Gx.Grid.enc v0),DV.agg (Gx.Slot.enc v1)] (DV.one (D.sl 1 (List.map Gx.encI r))):=by
 refine pure_of_walk Tryz.tok Tryz.mixed Tryz.func147 (by kernel_rfl) fun W=>?_
 unfold s_CellsOf at h
 refine avb ?_
 refine plb ?_;refine call_sel (E:=fun (x:(List (Gx.Slot)))=>DV.one (D.sl 4 (List.map Gx.Slot.enc x))) h (fun x1 h1=>(s_SlotsOf_ok N v0 h1)) (fun x1 hx1 h=>?_)
 refine ab0 ?_
 obtain ⟨zt4,h,gt4⟩:=bnd_some h
 refine W.r_cut (fun (t4:(List (Int)))=>⟨[(5,.sl 1)],[(1,some (.arr 1 (List.map Gx.encI t4) true))],1000⟩) (fun t=>t=zt4) ?_ ?_
 ·refine avb ?_
  refine loop_lp (fun (p1:(List (Int))×Int)=>⟨[(2,.ptr 1 0 0),(3,.ptr 2 0 0),(5,.sl 3),(6,.sl 4),(7,.d (D.i p1.2))],[(1,some (.box [.d (D.i v0.mRows),.d (D.i v0.mCols),.d (D.s v0.mCells)])),(2,some (.box [.d (D.i v1.mNumber),.d (D.b v1.mDown),.d (D.i v1.mCell),.d (D.i v1.mLength)])),(3,some (.arr 1 (List.map Gx.encI p1.1) true)),(4,some (.arr 4 (List.map Gx.Slot.enc x1) true))],1000⟩) h ?_ ?_
  ·exact weak_by
  intro np1 p1 yp1 h hfp1
  unfold s_CellsOf_L1 at h
  refine avb ?_
  refine lns (x1.length:Int) ?_
  refine avb ?_
  refine br_sel h (fun _ h=>?_) (fun _ h=>?_)
  ·refine ab0 ?_
   obtain ⟨zt3,h,gt3⟩:=bnd_some h
   refine W.r_cut (fun (t3:(List (Int)))=>⟨[(2,.ptr 1 0 0),(3,.ptr 2 0 0),(5,.sl 3),(6,.sl 4),(7,.d (D.i p1.2))],[(1,some (.box [.d (D.i v0.mRows),.d (D.i v0.mCols),.d (D.s v0.mCells)])),(2,some (.box [.d (D.i v1.mNumber),.d (D.b v1.mDown),.d (D.i v1.mCell),.d (D.i v1.mLength)])),(3,some (.arr 1 (List.map Gx.encI t3) true)),(4,some (.arr 4 (List.map Gx.Slot.enc x1) true))],1000⟩) (fun t=>t=zt3) ?_ ?_
   ·refine avb ?_
    refine idxp_sel h (fun x2 hx2 h=>?_)
    refine avb ?_
    refine ldp_sel hx2 ?_
    refine avb ?_
    refine brb h ?_ ?_<;>intro _ h
    ·refine cut_at (p1.1) (some_in h) ?_
     exact weak_by
    ·refine loop_lp (fun (p2:(List (Int))×Int)=>⟨[(2,.ptr 1 0 0),(3,.ptr 2 0 0),(5,.sl 3),(6,.sl 4),(7,.d (D.i p1.2)),(8,.d (D.i p2.2))],[(1,some (.box [.d (D.i v0.mRows),.d (D.i v0.mCols),.d (D.s v0.mCells)])),(2,some (.box [.d (D.i v1.mNumber),.d (D.b v1.mDown),.d (D.i v1.mCell),.d (D.i v1.mLength)])),(3,some (.arr 1 (List.map Gx.encI p2.1) true)),(4,some (.arr 4 (List.map Gx.Slot.enc x1) true))],1000⟩) h ?_ ?_
     ·exact weak_by
     intro np2 p2 yp2 h hfp2
     unfold s_CellsOf_L2 at h
     refine avb ?_
     refine brb h ?_ ?_<;>intro _ h
     ·refine brb h ?_ ?_<;>intro _ h
      ·refine app_sel h (app_ok (by (first|rfl|simp [sub])) (by (first|rfl|simp [sub])) (by decide)) (by (intro h;cases h)) (fun h=>?_)
       refine avb ?_
       exact lbk hfp2 h
      ·refine app_sel h (app_ok (by (first|rfl|simp [sub])) (by (first|rfl|simp [sub])) (by decide)) (by (intro h;cases h)) (fun h=>?_)
       refine avb ?_
       exact lbk hfp2 h
     ·have h:=finr hfp2 h
      refine cut_at (p2.1) (some_in h) ?_
      exact weak_by
   rintro t3 rfl
   have h:_=some _:=gt3
   refine avb ?_
   exact lbk hfp1 h
  ·refine avb ?_
   have h:=finr hfp1 h
   refine cut_at (p1.1) (some_in h) ?_
   exact weak_by
 rintro t4 rfl
 have h:_=some _:=gt4
 refine avb ?_
 cases h;exact eq_by

theorem s_SlotPattern_ok (N:Nat) (v0:Gx.Grid) (v1:List UInt8) (v2:Int) {r:(List UInt8)} (h:s_SlotPattern N v0 v1 v2=some r):Pure Tryz.prog 72 [DV.agg (Gx.Grid.enc v0),DV.one (D.s v1),DV.one (D.i v2)] (DV.one (D.s r)):=by
 refine pure_of_walk Tryz.tok Tryz.mixed Tryz.func72 (by kernel_rfl) fun W=>?_
 unfold s_SlotPattern at h
 refine avb ?_
 refine plb ?_;refine call_sel (E:=fun (x:(List (Gx.Slot)))=>DV.one (D.sl 4 (List.map Gx.Slot.enc x))) h (fun x1 h1=>(s_SlotsOf_ok N v0 h1)) (fun x1 hx1 h=>?_)
 refine avb ?_
 refine plb ?_;refine call_sel (E:=fun (x:Bool)=>DV.one (D.b x)) h (fun x2 h1=>(s_IsFill_ok N v0 v1 h1)) (fun x2 hx2 h=>?_)
 refine avb ?_
 refine brb h ?_ ?_<;>intro _ h
 ·cases h;exact eq_by
 ·refine lns (x1.length:Int) ?_
  refine avb ?_
  refine plb ?_;refine call_sel (E:=fun (x:Bool)=>DV.one (D.b x)) h (fun x3 h1=>(s_l1In_ok N v2 0 (w64 ((x1.length:Int) - 1)) h1)) (fun x3 hx3 h=>?_)
  refine avb ?_
  refine brb h ?_ ?_<;>intro _ h
  ·cases h;exact eq_by
  ·refine idxp_sel h (fun x4 hx4 h=>?_)
   refine avb ?_
   refine ldp_sel hx4 ?_
   refine avb ?_
   refine plb ?_;refine call_sel (E:=fun (x:(List (Int)))=>DV.one (D.sl 1 (List.map Gx.encI x))) h (fun x5 h1=>(s_CellsOf_ok N v0 x4 h1)) (fun x5 hx5 h=>?_)
   refine ab0 ?_
   obtain ⟨zt8,h,gt8⟩:=bnd_some h
   refine W.r_cut (fun (t8:(List UInt8))=>⟨[(8,.d (D.s t8))],[],1000⟩) (fun t=>t=zt8) ?_ ?_
   ·refine avb ?_
    refine loop_lp (fun (p1:(List UInt8)×Int)=>⟨[(1,.d (D.s v1)),(8,.d (D.s p1.1)),(9,.sl 1),(10,.d (D.i p1.2))],[(1,some (.arr 1 (List.map Gx.encI x5) true))],1000⟩) h ?_ ?_
    ·exact weak_by
    intro np1 p1 yp1 h hfp1
    unfold s_SlotPattern_L1 at h
    refine avb ?_
    refine lns (x5.length:Int) ?_
    refine avb ?_
    refine brb h ?_ ?_<;>intro _ h
    ·refine idxp_sel h (fun x6 hx6 h=>?_)
     refine avb ?_
     refine ldp_sel hx6 ?_
     refine avb ?_
     refine idxp_sel h (fun x7 hx7 h=>?_)
     refine avb ?_
     refine ldp_sel hx7 ?_
     refine avb ?_
     refine chk_sel h (fun q=>q) (fun h=>?_)
     refine avb ?_
     refine chk_sel h (fun q=>Nat.le_trans q (by decide)) (fun h=>?_)
     refine avb ?_
     exact lbk hfp1 h
    ·have h:=finr hfp1 h
     refine cut_at (p1.1) (some_in h) ?_
     exact weak_by
   rintro t8 rfl
   have h:_=some _:=gt8
   refine avb ?_
   cases h;exact eq_by

theorem s_l11Open_ok (N:Nat) (v0:List UInt8) {r:Bool} (h:s_l11Open N v0=some r):Pure Tryz.prog 163 [DV.one (D.s v0)] (DV.one (D.b r)):=by
 refine pure_of_walk Tryz.tok Tryz.mixed Tryz.func163 (by kernel_rfl) fun W=>?_
 unfold s_l11Open at h
 refine ab0 ?_
 refine W.r_seq ?_
 refine ab0 ?_
 obtain ⟨zt1,h,gt1⟩:=cutb_some h
 refine W.r_cut (fun (t1:Unit)=>⟨[],[],1000⟩) (fun t=>.nx t=zt1) ?_ ?_
 ·refine avb ?_
  refine loop_lp (fun (p1:Int)=>⟨[(0,.d (D.s v0)),(3,.d (D.i p1))],[],1000⟩) h ?_ ?_
  ·exact weak_by
  intro np1 p1 yp1 h hfp1
  unfold s_l11Open_L1 at h
  refine avb ?_
  refine lns (v0.length:Int) ?_
  refine avb ?_
  refine brb h ?_ ?_<;>intro _ h
  ·refine chk_sel h (fun q=>q) (fun h=>?_)
   refine avb ?_
   refine brb h ?_ ?_<;>intro _ h
   ·have h:=finr hfp1 h
    have h:=cutr gt1 h
    cases h;exact eq_by
   ·exact lbk hfp1 h
  ·have h:=finr hfp1 h
   refine cut_at (()) (some_in h) ?_
   exact weak_by
 rintro t1 rfl
 have h:_=some _:=gt1
 refine avb ?_
 cases h;exact eq_by

theorem s_WordsIn_ok (N:Nat) (v0:Gx.Grid) (v1:List UInt8) {r:(List (List UInt8))} (h:s_WordsIn N v0 v1=some r):Pure Tryz.prog 88 [DV.agg (Gx.Grid.enc v0),DV.one (D.s v1)] (DV.one (D.sl 1 (List.map Gx.encS r))):=by
 refine pure_of_walk Tryz.tok Tryz.mixed Tryz.func88 (by kernel_rfl) fun W=>?_
 unfold s_WordsIn at h
 refine avb ?_
 refine plb ?_;refine call_sel (E:=fun (x:(List (Gx.Slot)))=>DV.one (D.sl 4 (List.map Gx.Slot.enc x))) h (fun x1 h1=>(s_SlotsOf_ok N v0 h1)) (fun x1 hx1 h=>?_)
 refine ab0 ?_
 obtain ⟨zt5,h,gt5⟩:=bnd_some h
 refine W.r_cut (fun (t5:(List (List UInt8)))=>⟨[(5,.sl 1)],[(1,some (.arr 1 (List.map Gx.encS t5) true))],1000⟩) (fun t=>t=zt5) ?_ ?_
 ·refine avb ?_
  refine loop_lp (fun (p1:(List (List UInt8))×Int)=>⟨[(1,.d (D.s v1)),(2,.ptr 1 0 0),(5,.sl 2),(6,.sl 3),(7,.d (D.i p1.2))],[(1,some (.box [.d (D.i v0.mRows),.d (D.i v0.mCols),.d (D.s v0.mCells)])),(2,some (.arr 1 (List.map Gx.encS p1.1) true)),(3,some (.arr 4 (List.map Gx.Slot.enc x1) true))],1000⟩) h ?_ ?_
  ·exact weak_by
  intro np1 p1 yp1 h hfp1
  unfold s_WordsIn_L1 at h
  refine avb ?_
  refine lns (x1.length:Int) ?_
  refine avb ?_
  refine brb h ?_ ?_<;>intro _ h
  ·refine plb ?_;refine call_sel (E:=fun (x:Bool)=>DV.one (D.b x)) h (fun x2 h1=>(s_IsFill_ok N v0 v1 h1)) (fun x2 hx2 h=>?_)
   refine avb ?_
   refine brb h ?_ ?_<;>intro _ h
   ·refine plb ?_;refine call_sel (E:=fun (x:(List UInt8))=>DV.one (D.s x)) h (fun x3 h1=>(s_SlotPattern_ok N v0 v1 p1.2 h1)) (fun x3 hx3 h=>?_)
    refine avb ?_
    refine plb ?_;refine call_sel (E:=fun (x:Bool)=>DV.one (D.b x)) h (fun x4 h1=>(s_l11Open_ok N x3 h1)) (fun x4 hx4 h=>?_)
    refine avb ?_
    refine brb h ?_ ?_<;>intro _ h
    ·refine app_sel h (app_ok (by (first|rfl|simp [sub])) (by (first|rfl|simp [sub])) (by decide)) (by (intro h;cases h)) (fun h=>?_)
     refine avb ?_
     exact lbk hfp1 h
    ·exact lbk hfp1 h
   ·have h:=finr hfp1 h
    refine cut_at (p1.1) (some_in h) ?_
    exact weak_by
  ·have h:=finr hfp1 h
   refine cut_at (p1.1) (some_in h) ?_
   exact weak_by
 rintro t5 rfl
 have h:_=some _:=gt5
 refine avb ?_
 cases h;exact eq_by

theorem s_l36Words_ok (N:Nat) (v0:Gx.Issue) {r:(List (List UInt8))} (h:s_l36Words N v0=some r):Pure Tryz.prog 32 [DV.agg (Gx.Issue.enc v0)] (DV.one (D.sl 1 (List.map Gx.encS r))):=by
 refine pure_of_walk Tryz.tok Tryz.mixed Tryz.func32 (by kernel_rfl) fun W=>?_
 unfold s_l36Words at h
 refine avb ?_
 refine plb ?_;refine call_sel (E:=fun (x:(List (List UInt8)))=>DV.one (D.sl 1 (List.map Gx.encS x))) h (fun x1 h1=>(s_WordsIn_ok N v0.mPuzzle.mGrid v0.mFill h1)) (fun x1 hx1 h=>?_)
 refine avb ?_
 cases h;exact eq_by

theorem s_BeforeWord_ok (N:Nat) (v0:List UInt8) (v1:List UInt8) {r:Bool} (h:s_BeforeWord N v0 v1=some r):Pure Tryz.prog 111 [DV.one (D.s v0),DV.one (D.s v1)] (DV.one (D.b r)):=by
 refine pure_of_walk Tryz.tok Tryz.mixed Tryz.func111 (by kernel_rfl) fun W=>?_
 unfold s_BeforeWord at h
 refine avb ?_
 refine lns (v0.length:Int) ?_
 refine avb ?_
 refine lns (v1.length:Int) ?_
 refine avb ?_
 refine brb h ?_ ?_<;>intro _ h
 ·refine lns (v0.length:Int) ?_
  refine avb ?_
  refine lns (v1.length:Int) ?_
  refine avb ?_
  cases h;exact eq_by
 ·cases h;exact eq_by

theorem s_l29Before_ok (N:Nat) (v0:Gx.Used) (v1:Gx.Used) {r:Bool} (h:s_l29Before N v0 v1=some r):Pure Tryz.prog 86 [DV.agg (Gx.Used.enc v0),DV.agg (Gx.Used.enc v1)] (DV.one (D.b r)):=by
 refine pure_of_walk Tryz.tok Tryz.mixed Tryz.func86 (by kernel_rfl) fun W=>?_
 unfold s_l29Before at h
 refine avb ?_
 refine brb h ?_ ?_<;>intro _ h
 ·cases h;exact eq_by
 ·refine brb h ?_ ?_<;>intro _ h
  ·refine plb ?_;refine call_sel (E:=fun (x:Bool)=>DV.one (D.b x)) h (fun x1 h1=>(s_BeforeWord_ok N v0.mWord v1.mWord h1)) (fun x1 hx1 h=>?_)
   refine avb ?_
   cases h;exact eq_by
  ·cases h;exact eq_by

theorem s_IsWord_ok (N:Nat) (v0:List UInt8) {r:Bool} (h:s_IsWord N v0=some r):Pure Tryz.prog 162 [DV.one (D.s v0)] (DV.one (D.b r)):=by
 refine pure_of_walk Tryz.tok Tryz.mixed Tryz.func162 (by kernel_rfl) fun W=>?_
 unfold s_IsWord at h
 refine avb ?_
 refine lns (v0.length:Int) ?_
 refine avb ?_
 refine plb ?_;refine call_sel (E:=fun (x:Bool)=>DV.one (D.b x)) h (fun x1 h1=>(s_l1In_ok N (v0.length:Int) 1 8 h1)) (fun x1 hx1 h=>?_)
 refine avb ?_
 refine br_sel h (fun _ h=>?_) (fun _ h=>?_)
 ·refine avb ?_
  cases h;exact eq_by
 ·refine ab0 ?_
  obtain ⟨zt2,h,gt2⟩:=cutb_some h
  refine W.r_cut (fun (t2:Unit)=>⟨[],[],1000⟩) (fun t=>.nx t=zt2) ?_ ?_
  ·refine avb ?_
   refine loop_lp (fun (p1:Int)=>⟨[(0,.d (D.s v0)),(3,.d (D.i p1))],[],1000⟩) h ?_ ?_
   ·exact weak_by
   intro np1 p1 yp1 h hfp1
   unfold s_IsWord_L1 at h
   refine avb ?_
   refine lns (v0.length:Int) ?_
   refine avb ?_
   refine brb h ?_ ?_<;>intro _ h
   ·refine chk_sel h (fun q=>q) (fun h=>?_)
    refine avb ?_
    refine brb h ?_ ?_<;>intro _ h
    ·have h:=finr hfp1 h
     have h:=cutr gt2 h
     cases h;exact eq_by
    ·refine chk_sel h (fun q=>q) (fun h=>?_)
     refine avb ?_
     refine brb h ?_ ?_<;>intro _ h
     ·have h:=finr hfp1 h
      have h:=cutr gt2 h
      cases h;exact eq_by
     ·exact lbk hfp1 h
   ·have h:=finr hfp1 h
    refine cut_at (()) (some_in h) ?_
    exact weak_by
  rintro t2 rfl
  have h:_=some _:=gt2
  refine avb ?_
  cases h;exact eq_by

theorem s_AreUses_ok (N:Nat) (v0:List (Gx.Used)) {r:Bool} (h:s_AreUses N v0=some r):Pure Tryz.prog 87 [DV.one (D.sl 2 (List.map Gx.Used.enc v0))] (DV.one (D.b r)):=by
 refine pure_of_walk Tryz.tok Tryz.mixed Tryz.func87 (by kernel_rfl) fun W=>?_
 unfold s_AreUses at h
 refine ab0 ?_
 refine W.r_seq ?_
 refine ab0 ?_
 obtain ⟨zt8,h,gt8⟩:=cutb_some h
 refine W.r_cut (fun (t8:Unit)=>⟨[(0,.d (D.sl 2 (List.map Gx.Used.enc v0)))],[],1000⟩) (fun t=>.nx t=zt8) ?_ ?_
 ·refine avb ?_
  refine loop_lp (fun (p1:Int)=>⟨[(0,.d (D.sl 2 (List.map Gx.Used.enc v0))),(3,.d (D.i p1))],[],1000⟩) h ?_ ?_
  ·exact weak_by
  intro np1 p1 yp1 h hfp1
  unfold s_AreUses_L1 at h
  refine avb ?_
  refine lns (v0.length:Int) ?_
  refine avb ?_
  refine brb h ?_ ?_<;>intro _ h
  ·refine idx_sel h (fun x1 hx1 h=>?_)
   refine avb ?_
   refine plb ?_;refine call_sel (E:=fun (x:Bool)=>DV.one (D.b x)) h (fun x2 h1=>(s_IsWord_ok N x1.mWord h1)) (fun x2 hx2 h=>?_)
   refine avb ?_
   refine brb h ?_ ?_<;>intro _ h
   ·have h:=finr hfp1 h
    have h:=cutr gt8 h
    cases h;exact eq_by
   ·refine idx_sel h (fun x3 hx3 h=>?_)
    refine avb ?_
    refine plb ?_;refine call_sel (E:=fun (x:Bool)=>DV.one (D.b x)) h (fun x4 h1=>(s_l1In_ok N x3.mIssue 1 999 h1)) (fun x4 hx4 h=>?_)
    refine avb ?_
    refine brb h ?_ ?_<;>intro _ h
    ·have h:=finr hfp1 h
     have h:=cutr gt8 h
     cases h;exact eq_by
    ·refine brb h ?_ ?_<;>intro _ h
     ·refine idx_sel h (fun x5 hx5 h=>?_)
      refine avb ?_
      refine idx_sel h (fun x6 hx6 h=>?_)
      refine avb ?_
      refine plb ?_;refine call_sel (E:=fun (x:Bool)=>DV.one (D.b x)) h (fun x7 h1=>(s_l29Before_ok N x5 x6 h1)) (fun x7 hx7 h=>?_)
      refine avb ?_
      refine brb h ?_ ?_<;>intro _ h
      ·have h:=finr hfp1 h
       have h:=cutr gt8 h
       cases h;exact eq_by
      ·exact lbk hfp1 h
     ·exact lbk hfp1 h
  ·have h:=finr hfp1 h
   refine cut_at (()) (some_in h) ?_
   exact weak_by
 rintro t8 rfl
 have h:_=some _:=gt8
 refine avb ?_
 refine lns (v0.length:Int) ?_
 refine avb ?_
 cases h;exact eq_by

theorem s_AddUses_ok (N:Nat) (v0:List (Gx.Used)) (v1:List (List UInt8)) (v2:Int) {r:(List (Gx.Used))×Bool} (h:s_AddUses N v0 v1 v2=some r):Pure Tryz.prog 31 [DV.one (D.sl 2 (List.map Gx.Used.enc v0)),DV.one (D.sl 1 (List.map Gx.encS v1)),DV.one (D.i v2)] (DV.tup [DV.one (D.sl 2 (List.map Gx.Used.enc r.1)),DV.one (D.b r.2)]):=by
 refine pure_of_walk Tryz.tok Tryz.mixed Tryz.func31 (by kernel_rfl) fun W=>?_
 unfold s_AddUses at h
 refine avb ?_
 refine app_sel h (app_ok (by (first|rfl|simp [sub])) (by (first|rfl|simp [sub])) (by decide)) (by (intro _;first | exact flat_map (fun _=>rfl) | exact flat_take (flat_drop (flat_map (fun _=>rfl))))) (fun h=>?_)
 refine ab0 ?_
 obtain ⟨zt5,h,gt5⟩:=bnd_some h
 refine W.r_cut (fun (t5:(List (Gx.Used)))=>⟨[(0,.d (D.sl 2 (List.map Gx.Used.enc v0))),(8,.sl 1)],[(1,some (.arr 2 (List.map Gx.Used.enc t5) true))],1000⟩) (fun t=>t=zt5) ?_ ?_
 ·refine avb ?_
  refine loop_lp (fun (p1:(List (Gx.Used))×Int)=>⟨[(0,.d (D.sl 2 (List.map Gx.Used.enc v0))),(1,.d (D.sl 1 (List.map Gx.encS v1))),(2,.d (D.i v2)),(8,.sl 1),(9,.d (D.i p1.2))],[(1,some (.arr 2 (List.map Gx.Used.enc p1.1) true))],1000⟩) h ?_ ?_
  ·exact weak_by
  intro np1 p1 yp1 h hfp1
  unfold s_AddUses_L1 at h
  refine avb ?_
  refine lns (v1.length:Int) ?_
  refine avb ?_
  refine brb h ?_ ?_<;>intro _ h
  ·refine idx_sel h (fun x1 hx1 h=>?_)
   refine avb ?_
   refine lns (p1.1.length:Int) ?_
   refine ab0 ?_
   obtain ⟨zt4,h,gt4⟩:=bnd_some h
   refine W.r_cut (fun (t4:Int)=>⟨[(0,.d (D.sl 2 (List.map Gx.Used.enc v0))),(1,.d (D.sl 1 (List.map Gx.encS v1))),(2,.d (D.i v2)),(8,.sl 1),(9,.d (D.i p1.2)),(10,.ptr 2 0 0),(11,.d (D.i t4))],[(1,some (.arr 2 (List.map Gx.Used.enc p1.1) true)),(2,some (.box [.d (D.s x1),.d (D.i v2)]))],1000⟩) (fun t=>t=zt4) ?_ ?_
   ·refine avb ?_
    refine loop_lp (fun (p2:Int)=>⟨[(0,.d (D.sl 2 (List.map Gx.Used.enc v0))),(1,.d (D.sl 1 (List.map Gx.encS v1))),(2,.d (D.i v2)),(8,.sl 1),(9,.d (D.i p1.2)),(10,.ptr 2 0 0),(11,.d (D.i p2))],[(1,some (.arr 2 (List.map Gx.Used.enc p1.1) true)),(2,some (.box [.d (D.s x1),.d (D.i v2)]))],1000⟩) h ?_ ?_
    ·exact weak_by
    intro np2 p2 yp2 h hfp2
    unfold s_AddUses_L2 at h
    refine avb ?_
    refine brb h ?_ ?_<;>intro _ h
    ·refine idxp_sel h (fun x2 hx2 h=>?_)
     refine avb ?_
     refine ldp_sel hx2 ?_
     refine avb ?_
     refine plb ?_;refine call_sel (E:=fun (x:Bool)=>DV.one (D.b x)) h (fun x3 h1=>(s_l29Before_ok N (⟨x1,v2⟩:Gx.Used) x2 h1)) (fun x3 hx3 h=>?_)
     refine avb ?_
     refine brb h ?_ ?_<;>intro _ h
     ·exact lbk hfp2 h
     ·have h:=finr hfp2 h
      refine cut_at (p2) (some_in h) ?_
      exact weak_by
    ·have h:=finr hfp2 h
     refine cut_at (p2) (some_in h) ?_
     exact weak_by
   rintro t4 rfl
   have h:_=some _:=gt4
   refine avb ?_
   refine chk_sel h (fun q=>by simpa using q) (fun h=>?_)
   refine avb ?_
   refine app_sel h (app_ok (by (first|rfl|simp [sub])) (by (first|rfl|simp [sub])) (by decide)) (by (intro _;first | exact flat_map (fun _=>rfl) | exact flat_take (flat_drop (flat_map (fun _=>rfl))))) (fun h=>?_)
   refine avb ?_
   refine app_sel h (app_ok (by (first|rfl|simp [sub])) (by (first|rfl|simp [sub])) (by decide)) (by (intro h;cases h)) (fun h=>?_)
   refine avb ?_
   refine chk_sel h (fun q=>by simpa using q) (fun h=>?_)
   refine avb ?_
   refine app_sel h (app_ok (by (first|rfl|simp [sub])) (by (first|rfl|simp [sub])) (by decide)) (by (intro _;first | exact flat_map (fun _=>rfl) | exact flat_take (flat_drop (flat_map (fun _=>rfl))))) (fun h=>?_)
   refine avb ?_
   exact lbk hfp1 h
  ·have h:=finr hfp1 h
   refine cut_at (p1.1) (some_in h) ?_
   exact weak_by
 rintro t5 rfl
 have h:_=some _:=gt5
 refine avb ?_
 refine plb ?_;refine call_sel (E:=fun (x:Bool)=>DV.one (D.b x)) h (fun x6 h1=>(s_AreUses_ok N t5 h1)) (fun x6 hx6 h=>?_)
 refine avb ?_
 refine brb h ?_ ?_<;>intro _ h
 ·refine app_sel h (app_ok (by (first|rfl|simp [sub])) (by (first|rfl|simp [sub])) (by decide)) (by (intro _;first | exact flat_map (fun _=>rfl) | exact flat_take (flat_drop (flat_map (fun _=>rfl))))) (fun h=>?_)
  refine avb ?_
  cases h;exact eq_by
 ·cases h;exact eq_by

theorem s_IsRecorded_ok (N:Nat) (v0:Gx.House) {r:Bool} (h:s_IsRecorded N v0=some r):Pure Tryz.prog 8 [DV.agg (Gx.House.enc v0)] (DV.one (D.b r)):=by
 refine pure_of_walk Tryz.tok Tryz.mixed Tryz.func8 (by kernel_rfl) fun W=>?_
 unfold s_IsRecorded at h
 refine ab0 ?_
 refine W.r_seq ?_
 refine ab0 ?_
 refine W.r_seq ?_
 refine ab0 ?_
 obtain ⟨zt5,h,gt5⟩:=cutb_some h
 refine W.r_cut (fun (t5:(List (Gx.Used)))=>⟨[(1,.ptr 1 0 0),(3,.sl 2)],[(1,some (.box [.d (D.sl 4 (List.map Gx.Listed.enc v0.mList)),.d (D.sl 2 (List.map Gx.Meaning.enc v0.mDict)),.d (D.i v0.mDesk.mGrid.mRows),.d (D.i v0.mDesk.mGrid.mCols),.d (D.s v0.mDesk.mGrid.mCells),.d (D.s v0.mDesk.mFill),.d (D.sl 2 (List.map Gx.Clue.enc v0.mDesk.mClues)),.d (D.i v0.mDesk.mVersion),.d (D.sl 10 (List.map Gx.Issue.enc v0.mIssues)),.d (D.sl 2 (List.map Gx.Used.enc v0.mUses)),.d (D.sl 5 (List.map Gx.Correction.enc v0.mCorrections)),.d (D.sl 4 (List.map Gx.Entry.enc v0.mEntries)),.d (D.i v0.mNow)])),(2,some (.arr 2 (List.map Gx.Used.enc t5) true))],1000⟩) (fun t=>.nx t=zt5) ?_ ?_
 ·refine avb ?_
  refine loop_lp (fun (p1:(List (Gx.Used))×Int)=>⟨[(1,.ptr 1 0 0),(3,.sl 2),(4,.d (D.i p1.2))],[(1,some (.box [.d (D.sl 4 (List.map Gx.Listed.enc v0.mList)),.d (D.sl 2 (List.map Gx.Meaning.enc v0.mDict)),.d (D.i v0.mDesk.mGrid.mRows),.d (D.i v0.mDesk.mGrid.mCols),.d (D.s v0.mDesk.mGrid.mCells),.d (D.s v0.mDesk.mFill),.d (D.sl 2 (List.map Gx.Clue.enc v0.mDesk.mClues)),.d (D.i v0.mDesk.mVersion),.d (D.sl 10 (List.map Gx.Issue.enc v0.mIssues)),.d (D.sl 2 (List.map Gx.Used.enc v0.mUses)),.d (D.sl 5 (List.map Gx.Correction.enc v0.mCorrections)),.d (D.sl 4 (List.map Gx.Entry.enc v0.mEntries)),.d (D.i v0.mNow)])),(2,some (.arr 2 (List.map Gx.Used.enc p1.1) true))],1000⟩) h ?_ ?_
  ·exact weak_by
  intro np1 p1 yp1 h hfp1
  unfold s_IsRecorded_L1 at h
  refine avb ?_
  refine lns (v0.mIssues.length:Int) ?_
  refine avb ?_
  refine brb h ?_ ?_<;>intro _ h
  ·refine idx_sel h (fun x1 hx1 h=>?_)
   refine avb ?_
   refine plb ?_;refine call_sel (E:=fun (x:(List (List UInt8)))=>DV.one (D.sl 1 (List.map Gx.encS x))) h (fun x2 h1=>(s_l36Words_ok N x1 h1)) (fun x2 hx2 h=>?_)
   refine avb ?_
   refine idx_sel h (fun x3 hx3 h=>?_)
   refine avb ?_
   refine plb ?_;refine call_sel (E:=fun (x:(List (Gx.Used))×Bool)=>DV.tup [DV.one (D.sl 2 (List.map Gx.Used.enc x.1)),DV.one (D.b x.2)]) h (fun x4 h1=>(s_AddUses_ok N p1.1 x2 x3.mNumber h1)) (fun x4 hx4 h=>?_)
   refine avb ?_
   refine brb h ?_ ?_<;>intro _ h
   ·have h:=finr hfp1 h
    have h:=cutr gt5 h
    cases h;exact eq_by
   ·exact lbk hfp1 h
  ·have h:=finr hfp1 h
   refine cut_at (p1.1) (some_in h) ?_
   exact weak_by
 rintro t5 rfl
 have h:_=some _:=gt5
 refine avb ?_
 refine lns (t5.length:Int) ?_
 refine avb ?_
 refine lns (v0.mUses.length:Int) ?_
 refine avb ?_
 refine br_sel h (fun _ h=>?_) (fun _ h=>?_)
 ·refine avb ?_
  cases h;exact eq_by
 ·refine ab0 ?_
  obtain ⟨zt8,h,gt8⟩:=cutb_some h
  refine W.r_cut (fun (t8:Unit)=>⟨[],[],1000⟩) (fun t=>.nx t=zt8) ?_ ?_
  ·refine avb ?_
   refine loop_lp (fun (p2:Int)=>⟨[(1,.ptr 1 0 0),(3,.sl 2),(7,.d (D.i p2))],[(1,some (.box [.d (D.sl 4 (List.map Gx.Listed.enc v0.mList)),.d (D.sl 2 (List.map Gx.Meaning.enc v0.mDict)),.d (D.i v0.mDesk.mGrid.mRows),.d (D.i v0.mDesk.mGrid.mCols),.d (D.s v0.mDesk.mGrid.mCells),.d (D.s v0.mDesk.mFill),.d (D.sl 2 (List.map Gx.Clue.enc v0.mDesk.mClues)),.d (D.i v0.mDesk.mVersion),.d (D.sl 10 (List.map Gx.Issue.enc v0.mIssues)),.d (D.sl 2 (List.map Gx.Used.enc v0.mUses)),.d (D.sl 5 (List.map Gx.Correction.enc v0.mCorrections)),.d (D.sl 4 (List.map Gx.Entry.enc v0.mEntries)),.d (D.i v0.mNow)])),(2,some (.arr 2 (List.map Gx.Used.enc t5) true))],1000⟩) h ?_ ?_
   ·exact weak_by
   intro np2 p2 yp2 h hfp2
   unfold s_IsRecorded_L2 at h
   refine avb ?_
   refine lns (t5.length:Int) ?_
   refine avb ?_
   refine brb h ?_ ?_<;>intro _ h
   ·refine idxp_sel h (fun x6 hx6 h=>?_)
    refine avb ?_
    refine ldp_sel hx6 ?_
    refine avb ?_
    refine idx_sel h (fun x7 hx7 h=>?_)
    refine avb ?_
    refine brb h ?_ ?_<;>intro _ h
    ·have h:=finr hfp2 h
     have h:=cutr gt8 h
     cases h;exact eq_by
    ·exact lbk hfp2 h
   ·have h:=finr hfp2 h
    refine cut_at (()) (some_in h) ?_
    exact weak_by
  rintro t8 rfl
  have h:_=some _:=gt8
  refine avb ?_
  cases h;exact eq_by

theorem i_InRange_ok (N:Nat) (v0:Int) (v1:Int) (v2:Int) {r:Bool} (h:i_InRange N v0 v1 v2=some r):Pure Tryz.prog 169 [DV.one (D.i v0),DV.one (D.i v1),DV.one (D.i v2)] (DV.one (D.b r)):=by
 refine pure_of_walk Tryz.tok Tryz.mixed Tryz.func169 (by kernel_rfl) fun W=>?_
 unfold i_InRange at h
 refine avb ?_
 refine brb h ?_ ?_<;>intro _ h
 ·cases h;exact eq_by
 ·cases h;exact eq_by

theorem i_IsGrid_ok (N:Nat) (v0:Gx.Grid) {r:Bool} (h:i_IsGrid N v0=some r):Pure Tryz.prog 238 [DV.agg (Gx.Grid.enc v0)] (DV.one (D.b r)):=by
 refine pure_of_walk Tryz.tok Tryz.mixed Tryz.func238 (by kernel_rfl) fun W=>?_
 unfold i_IsGrid at h
 refine avb ?_
 refine plb ?_;refine call_sel (E:=fun (x:Bool)=>DV.one (D.b x)) h (fun x1 h1=>(i_InRange_ok N v0.mRows 2 6 h1)) (fun x1 hx1 h=>?_)
 refine avb ?_
 refine brb h ?_ ?_<;>intro _ h
 ·cases h;exact eq_by
 ·refine plb ?_;refine call_sel (E:=fun (x:Bool)=>DV.one (D.b x)) h (fun x2 h1=>(i_InRange_ok N v0.mCols 2 6 h1)) (fun x2 hx2 h=>?_)
  refine avb ?_
  refine brb h ?_ ?_<;>intro _ h
  ·cases h;exact eq_by
  ·refine lns (v0.mCells.length:Int) ?_
   refine avb ?_
   refine br_sel h (fun _ h=>?_) (fun _ h=>?_)
   ·refine avb ?_
    cases h;exact eq_by
   ·refine ab0 ?_
    obtain ⟨zt3,h,gt3⟩:=cutb_some h
    refine W.r_cut (fun (t3:Unit)=>⟨[],[],1000⟩) (fun t=>.nx t=zt3) ?_ ?_
    ·refine avb ?_
     refine lns (v0.mCells.length:Int) ?_
     refine avb ?_
     refine loop_lp (fun (p1:Int)=>⟨[(1,.ptr 1 0 0),(27,.d (D.i (v0.mCells.length:Int))),(28,.d (D.i p1))],[(1,some (.box [.d (D.i v0.mRows),.d (D.i v0.mCols),.d (D.s v0.mCells)]))],1000⟩) h ?_ ?_
     ·exact weak_by
     intro np1 p1 yp1 h hfp1
     unfold i_IsGrid_L1 at h
     refine avb ?_
     refine brb h ?_ ?_<;>intro _ h
     ·refine chk_sel h (fun q=>q) (fun h=>?_)
      refine avb ?_
      refine brb h ?_ ?_<;>intro _ h
      ·refine chk_sel h (fun q=>q) (fun h=>?_)
       refine avb ?_
       refine brb h ?_ ?_<;>intro _ h
       ·have h:=finr hfp1 h
        have h:=cutr gt3 h
        cases h;exact eq_by
       ·exact lbk hfp1 h
      ·exact lbk hfp1 h
     ·have h:=finr hfp1 h
      refine cut_at (()) (some_in h) ?_
      exact weak_by
    rintro t3 rfl
    have h:_=some _:=gt3
    refine avb ?_
    cases h;exact eq_by

theorem i_isLetter_ok (N:Nat) (v0:Int) {r:Bool} (h:i_isLetter N v0=some r):Pure Tryz.prog 210 [DV.one (D.u8 v0)] (DV.one (D.b r)):=by
 refine pure_of_walk Tryz.tok Tryz.mixed Tryz.func210 (by kernel_rfl) fun W=>?_
 unfold i_isLetter at h
 refine avb ?_
 refine brb h ?_ ?_<;>intro _ h
 ·cases h;exact eq_by
 ·cases h;exact eq_by

theorem i_IsFill_ok (N:Nat) (v0:Gx.Grid) (v1:List UInt8) {r:Bool} (h:i_IsFill N v0 v1=some r):Pure Tryz.prog 194 [DV.agg (Gx.Grid.enc v0),DV.one (D.s v1)] (DV.one (D.b r)):=by
 refine pure_of_walk Tryz.tok Tryz.mixed Tryz.func194 (by kernel_rfl) fun W=>?_
 unfold i_IsFill at h
 refine avb ?_
 refine plb ?_;refine call_sel (E:=fun (x:Bool)=>DV.one (D.b x)) h (fun x1 h1=>(i_IsGrid_ok N v0 h1)) (fun x1 hx1 h=>?_)
 refine avb ?_
 refine brb h ?_ ?_<;>intro _ h
 ·cases h;exact eq_by
 ·refine lns (v1.length:Int) ?_
  refine avb ?_
  refine lns (v0.mCells.length:Int) ?_
  refine avb ?_
  refine br_sel h (fun _ h=>?_) (fun _ h=>?_)
  ·refine avb ?_
   cases h;exact eq_by
  ·refine ab0 ?_
   obtain ⟨zt3,h,gt3⟩:=cutb_some h
   refine W.r_cut (fun (t3:Unit)=>⟨[],[],1000⟩) (fun t=>.nx t=zt3) ?_ ?_
   ·refine avb ?_
    refine lns (v1.length:Int) ?_
    refine avb ?_
    refine loop_lp (fun (p1:Int)=>⟨[(1,.d (D.s v1)),(2,.ptr 1 0 0),(18,.d (D.i (v1.length:Int))),(19,.d (D.i p1))],[(1,some (.box [.d (D.i v0.mRows),.d (D.i v0.mCols),.d (D.s v0.mCells)]))],1000⟩) h ?_ ?_
    ·exact weak_by
    intro np1 p1 yp1 h hfp1
    unfold i_IsFill_L1 at h
    refine avb ?_
    refine brb h ?_ ?_<;>intro _ h
    ·refine chk_sel h (fun q=>q) (fun h=>?_)
     refine avb ?_
     refine chk_sel h (fun q=>q) (fun h=>?_)
     refine avb ?_
     refine brb h ?_ ?_<;>intro _ h
     ·have h:=finr hfp1 h
      have h:=cutr gt3 h
      cases h;exact eq_by
     ·refine chk_sel h (fun q=>q) (fun h=>?_)
      refine avb ?_
      refine brb h ?_ ?_<;>intro _ h
      ·refine chk_sel h (fun q=>q) (fun h=>?_)
       refine avb ?_
       refine brb h ?_ ?_<;>intro _ h
       ·refine chk_sel h (fun q=>q) (fun h=>?_)
        refine avb ?_
        refine plb ?_;refine call_sel (E:=fun (x:Bool)=>DV.one (D.b x)) h (fun x2 h1=>(i_isLetter_ok N (byteI v1 p1) h1)) (fun x2 hx2 h=>?_)
        refine avb ?_
        refine brb h ?_ ?_<;>intro _ h
        ·have h:=finr hfp1 h
         have h:=cutr gt3 h
         cases h;exact eq_by
        ·exact lbk hfp1 h
       ·exact lbk hfp1 h
      ·exact lbk hfp1 h
    ·have h:=finr hfp1 h
     refine cut_at (()) (some_in h) ?_
     exact weak_by
   rintro t3 rfl
   have h:_=some _:=gt3
   refine avb ?_
   cases h;exact eq_by

theorem i_run_ok (N:Nat) (v0:Gx.Grid) (v1:Int) (v2:Bool) {r:Int} (h:i_run N v0 v1 v2=some r):Pure Tryz.prog 261 [DV.agg (Gx.Grid.enc v0),DV.one (D.i v1),DV.one (D.b v2)] (DV.one (D.i r)):=by
 refine pure_of_walk Tryz.tok Tryz.mixed Tryz.func261 (by kernel_rfl) fun W=>?_
 unfold i_run at h
 refine avb ?_
 refine chk_sel h (fun q=>q) (fun h=>?_)
 refine ab0 ?_
 obtain ⟨zt1,h,gt1⟩:=bnd_some h
 refine W.r_cut (fun (t1:Int×Int×Int)=>⟨[(1,.d (D.i v1)),(3,.ptr 1 0 0),(7,.d (D.i t1.1)),(8,.d (D.i t1.2.1)),(9,.d (D.i t1.2.2))],[(1,some (.box [.d (D.i v0.mRows),.d (D.i v0.mCols),.d (D.s v0.mCells)]))],1000⟩) (fun t=>t=zt1) ?_ ?_
 ·refine avb ?_
  refine brb h ?_ ?_<;>intro _ h
  ·refine chk_sel h (fun q=>q) (fun h=>?_)
   refine avb ?_
   refine cut_at ((v0.mCols,w64 (Int.tdiv v1 v0.mCols),v0.mRows)) (some_in h) ?_
   exact weak_by
  ·refine cut_at ((1,Int.tmod v1 v0.mCols,v0.mCols)) (some_in h) ?_
   exact weak_by
 rintro t1 rfl
 have h:_=some _:=gt1
 refine ab0 ?_
 obtain ⟨zt2,h,gt2⟩:=cutb_some h
 refine W.r_cut (fun (t2:Unit)=>⟨[(1,.d (D.i v1)),(3,.ptr 1 0 0),(7,.d (D.i t1.1)),(8,.d (D.i t1.2.1)),(9,.d (D.i t1.2.2))],[(1,some (.box [.d (D.i v0.mRows),.d (D.i v0.mCols),.d (D.s v0.mCells)]))],1000⟩) (fun t=>.nx t=zt2) ?_ ?_
 ·refine avb ?_
  refine chk_sel h (fun q=>q) (fun h=>?_)
  refine avb ?_
  refine brb h ?_ ?_<;>intro _ h
  ·have h:=cutr gt2 h
   cases h;exact eq_by
  ·refine brb h ?_ ?_<;>intro _ h
   ·refine chk_sel h (fun q=>q) (fun h=>?_)
    refine avb ?_
    refine brb h ?_ ?_<;>intro _ h
    ·have h:=cutr gt2 h
     cases h;exact eq_by
    ·refine cut_at (()) (some_in h) ?_
     exact weak_by
   ·refine cut_at (()) (some_in h) ?_
    exact weak_by
 rintro t2 rfl
 have h:_=some _:=gt2
 refine ab0 ?_
 refine W.r_seq ?_
 refine ab0 ?_
 obtain ⟨zt3,h,gt3⟩:=bnd_some h
 refine W.r_cut (fun (t3:Int)=>⟨[(10,.d (D.i t3))],[],1000⟩) (fun t=>t=zt3) ?_ ?_
 ·refine avb ?_
  refine loop_lp (fun (p1:Int)=>⟨[(1,.d (D.i v1)),(3,.ptr 1 0 0),(7,.d (D.i t1.1)),(8,.d (D.i t1.2.1)),(9,.d (D.i t1.2.2)),(10,.d (D.i p1))],[(1,some (.box [.d (D.i v0.mRows),.d (D.i v0.mCols),.d (D.s v0.mCells)]))],1000⟩) h ?_ ?_
  ·exact weak_by
  intro np1 p1 yp1 h hfp1
  unfold i_run_L1 at h
  refine avb ?_
  refine brb h ?_ ?_<;>intro _ h
  ·refine chk_sel h (fun q=>q) (fun h=>?_)
   refine avb ?_
   refine brb h ?_ ?_<;>intro _ h
   ·exact lbk hfp1 h
   ·have h:=finr hfp1 h
    refine cut_at (p1) (some_in h) ?_
    exact weak_by
  ·have h:=finr hfp1 h
   refine cut_at (p1) (some_in h) ?_
   exact weak_by
 rintro t3 rfl
 have h:_=some _:=gt3
 refine avb ?_
 cases h;exact eq_by

theorem i_SlotsOf_ok (N:Nat) (v0:Gx.Grid) {r:(List (Gx.Slot))} (h:i_SlotsOf N v0=some r):Pure Tryz.prog 239 [DV.agg (Gx.Grid.enc v0)] (DV.one (D.sl 4 (List.map Gx.Slot.enc r))):=by
 refine pure_of_walk Tryz.tok Tryz.mixed Tryz.func239 (by kernel_rfl) fun W=>?_
 unfold i_SlotsOf at h
 refine avb ?_
 refine plb ?_;refine call_sel (E:=fun (x:Bool)=>DV.one (D.b x)) h (fun x1 h1=>(i_IsGrid_ok N v0 h1)) (fun x1 hx1 h=>?_)
 refine avb ?_
 refine br_sel h (fun _ h=>?_) (fun _ h=>?_)
 ·refine avb ?_
  cases h;exact eq_by
 ·refine ab0 ?_
  refine W.r_seq ?_
  refine ab0 ?_
  refine W.r_seq ?_
  refine ab0 ?_
  obtain ⟨zt6,h,gt6⟩:=bnd_some h
  refine W.r_cut (fun (t6:(List (Gx.Slot)))=>⟨[(3,.sl 1)],[(1,some (.arr 4 (List.map Gx.Slot.enc t6) true))],1000⟩) (fun t=>t=zt6) ?_ ?_
  ·refine avb ?_
   refine lns (v0.mCells.length:Int) ?_
   refine avb ?_
   refine loop_lp (fun (p1:(List (Gx.Slot))×Int×Int)=>⟨[(1,.ptr 1 0 0),(3,.sl 2),(4,.d (D.i p1.2.1)),(13,.d (D.i (v0.mCells.length:Int))),(14,.d (D.i p1.2.2))],[(1,some (.box [.d (D.i v0.mRows),.d (D.i v0.mCols),.d (D.s v0.mCells)])),(2,some (.arr 4 (List.map Gx.Slot.enc p1.1) true))],1000⟩) h ?_ ?_
   ·exact weak_by
   intro np1 p1 yp1 h hfp1
   unfold i_SlotsOf_L1 at h
   refine avb ?_
   refine brb h ?_ ?_<;>intro _ h
   ·refine plb ?_;refine call_sel (E:=fun (x:Int)=>DV.one (D.i x)) h (fun x2 h1=>(i_run_ok N v0 p1.2.2 false h1)) (fun x2 hx2 h=>?_)
    refine avb ?_
    refine plb ?_;refine call_sel (E:=fun (x:Int)=>DV.one (D.i x)) h (fun x3 h1=>(i_run_ok N v0 p1.2.2 true h1)) (fun x3 hx3 h=>?_)
    refine ab0 ?_
    obtain ⟨zt4,h,gt4⟩:=bnd_some h
    refine W.r_cut (fun (t4:Int)=>⟨[(1,.ptr 1 0 0),(3,.sl 2),(4,.d (D.i t4)),(5,.d (D.i p1.2.2)),(6,.d (D.i x2)),(7,.d (D.i x3)),(13,.d (D.i (v0.mCells.length:Int))),(14,.d (D.i p1.2.2))],[(1,some (.box [.d (D.i v0.mRows),.d (D.i v0.mCols),.d (D.s v0.mCells)])),(2,some (.arr 4 (List.map Gx.Slot.enc p1.1) true))],1000⟩) (fun t=>t=zt4) ?_ ?_
    ·refine avb ?_
     refine brb h ?_ ?_<;>intro _ h
     ·refine cut_at (w64 (p1.2.1+1)) (some_in h) ?_
      exact weak_by
     ·refine brb h ?_ ?_<;>intro _ h
      ·refine cut_at (w64 (p1.2.1+1)) (some_in h) ?_
       exact weak_by
      ·refine cut_at (p1.2.1) (some_in h) ?_
       exact weak_by
    rintro t4 rfl
    have h:_=some _:=gt4
    refine ab0 ?_
    obtain ⟨zt5,h,gt5⟩:=bnd_some h
    refine W.r_cut (fun (t5:(List (Gx.Slot)))=>⟨[(1,.ptr 1 0 0),(3,.sl 2),(4,.d (D.i t4)),(5,.d (D.i p1.2.2)),(7,.d (D.i x3)),(13,.d (D.i (v0.mCells.length:Int))),(14,.d (D.i p1.2.2))],[(1,some (.box [.d (D.i v0.mRows),.d (D.i v0.mCols),.d (D.s v0.mCells)])),(2,some (.arr 4 (List.map Gx.Slot.enc t5) true))],1000⟩) (fun t=>t=zt5) ?_ ?_
    ·refine avb ?_
     refine brb h ?_ ?_<;>intro _ h
     ·refine app_sel h (app_ok (by (first|rfl|simp [sub])) (by (first|rfl|simp [sub])) (by decide)) (by (intro h;cases h)) (fun h=>?_)
      refine avb ?_
      refine cut_at (p1.1++([(⟨t4,false,p1.2.2,x2⟩:Gx.Slot)])) (some_in h) ?_
      exact weak_by
     ·refine cut_at (p1.1) (some_in h) ?_
      exact weak_by
    rintro t5 rfl
    have h:_=some _:=gt5
    refine avb ?_
    refine brb h ?_ ?_<;>intro _ h
    ·refine app_sel h (app_ok (by (first|rfl|simp [sub])) (by (first|rfl|simp [sub])) (by decide)) (by (intro h;cases h)) (fun h=>?_)
     refine avb ?_
     exact lbk hfp1 h
    ·exact lbk hfp1 h
   ·have h:=finr hfp1 h
    refine cut_at (p1.1) (some_in h) ?_
    exact weak_by
  rintro t6 rfl
  have h:_=some _:=gt6
  refine avb ?_
  cases h;exact eq_by

theorem i_cells_ok (N:Nat) (v0:Gx.Grid) (v1:Gx.Slot) {r:(List (Int))} (h:i_cells N v0 v1=some r):Pure Tryz.prog 240 [DV.agg (Gx.Grid.enc v0),DV.agg (Gx.Slot.enc v1)] (DV.one (D.sl 1 (List.map Gx.encI r))):=by
 refine pure_of_walk Tryz.tok Tryz.mixed Tryz.func240 (by kernel_rfl) fun W=>?_
 unfold i_cells at h
 refine ab0 ?_
 refine W.r_seq ?_
 refine ab0 ?_
 refine W.r_seq ?_
 refine ab0 ?_
 obtain ⟨zt1,h,gt1⟩:=bnd_some h
 refine W.r_cut (fun (t1:Int)=>⟨[(3,.ptr 1 0 0),(5,.d (D.i t1))],[(1,some (.box [.d (D.i v1.mNumber),.d (D.b v1.mDown),.d (D.i v1.mCell),.d (D.i v1.mLength)]))],1000⟩) (fun t=>t=zt1) ?_ ?_
 ·refine avb ?_
  refine brb h ?_ ?_<;>intro _ h
  ·refine cut_at (v0.mCols) (some_in h) ?_
   exact weak_by
  ·refine cut_at (1) (some_in h) ?_
   exact weak_by
 rintro t1 rfl
 have h:_=some _:=gt1
 refine ab0 ?_
 refine W.r_seq ?_
 refine ab0 ?_
 obtain ⟨zt2,h,gt2⟩:=bnd_some h
 refine W.r_cut (fun (t2:(List (Int)))=>⟨[(6,.sl 1)],[(1,some (.arr 1 (List.map Gx.encI t2) true))],1000⟩) (fun t=>t=zt2) ?_ ?_
 ·refine avb ?_
  refine loop_lp (fun (p1:(List (Int))×Int)=>⟨[(3,.ptr 1 0 0),(5,.d (D.i t1)),(6,.sl 2),(13,.d (D.i v1.mLength)),(14,.d (D.i p1.2))],[(1,some (.box [.d (D.i v1.mNumber),.d (D.b v1.mDown),.d (D.i v1.mCell),.d (D.i v1.mLength)])),(2,some (.arr 1 (List.map Gx.encI p1.1) true))],1000⟩) h ?_ ?_
  ·exact weak_by
  intro np1 p1 yp1 h hfp1
  unfold i_cells_L1 at h
  refine avb ?_
  refine brb h ?_ ?_<;>intro _ h
  ·refine app_sel h (app_ok (by (first|rfl|simp [sub])) (by (first|rfl|simp [sub])) (by decide)) (by (intro h;cases h)) (fun h=>?_)
   refine avb ?_
   exact lbk hfp1 h
  ·have h:=finr hfp1 h
   refine cut_at (p1.1) (some_in h) ?_
   exact weak_by
 rintro t2 rfl
 have h:_=some _:=gt2
 refine avb ?_
 cases h;exact eq_by

end Lw
end Go.Proofs
