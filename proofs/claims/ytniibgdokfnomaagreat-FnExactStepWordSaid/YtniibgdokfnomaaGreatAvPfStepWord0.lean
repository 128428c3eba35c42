/- PRINTED BY gen.py (mine): their contracts. -/
import Derived.Test.YtniibgdokfnomaaGreatAvHpStepWord
namespace Go.Proofs
open Go Go.Av
set_option maxRecDepth 100000
set_option maxHeartbeats 40000000
set_option linter.unusedVariables false
set_option linter.unusedSimpArgs false
namespace Lw
theorem l_szListed_ok (N : Nat) (v0 : Gx.Listed) (v1 : Int) {r : Int} (h : l_szListed N v0 v1 = some r) : Pure Tryz.prog 12 [DV.agg (Gx.Listed.enc v0), DV.one (D.i v1)] (DV.one (D.i r)) := by
 refine pure_of_walk Tryz.tok Tryz.mixed Tryz.func12 (by kernel_rfl) fun W => ?_
 unfold l_szListed at h
 refine avb ?_
 refine lns (v0.mWord.length : Int) ?_
 refine avb ?_
 refine brb h ?_ ?_<;>intro _ h
 ·cases h;exact eq_by
 ·cases h;exact eq_by

theorem l_szListedS_ok (N : Nat) (v0 : List (Gx.Listed)) (v1 : Int) {r : Int} (h : l_szListedS N v0 v1 = some r) : Pure Tryz.prog 24 [DV.one (D.sl 4 (List.map Gx.Listed.enc v0)), DV.one (D.i v1)] (DV.one (D.i r)) := by
 refine pure_of_walk Tryz.tok Tryz.mixed Tryz.func24 (by kernel_rfl) fun W => ?_
 unfold l_szListedS at h
 refine avb ?_
 refine lns (v0.length : Int) ?_
 refine avb ?_
 refine br_sel h (fun _ h => ?_) (fun _ h => ?_)
 ·refine avb ?_
  cases h;exact eq_by
 ·refine ab0 ?_
  obtain ⟨zt3, h, gt3⟩ := cutb_some h
  refine W.r_cut (fun (t3 : Int) => ⟨[(1, .d (D.i t3))], [], 1000⟩) (fun t => .nx t = zt3) ?_ ?_
  ·refine avb ?_
   refine loop_lp (fun (p1 : Int × Int) => ⟨[(0, .d (D.sl 4 (List.map Gx.Listed.enc v0))), (1, .d (D.i p1.1)), (5, .d (D.i p1.2))], [], 1000⟩) h ?_ ?_
   ·exact weak_by
   intro np1 p1 yp1 h hfp1
   unfold l_szListedS_L1 at h
   refine avb ?_
   refine lns (v0.length : Int) ?_
   refine avb ?_
   refine brb h ?_ ?_<;>intro _ h
   ·refine idx_sel h (fun x1 hx1 h => ?_)
    refine avb ?_
    refine plb ?_;refine call_sel (E := fun (x : Int) => DV.one (D.i x)) h (fun x2 h1 => (l_szListed_ok N x1 p1.1 h1)) (fun x2 hx2 h => ?_)
    refine avb ?_
    refine brb h ?_ ?_<;>intro _ h
    ·have h := finr hfp1 h
     have h := cutr gt3 h
     cases h;exact eq_by
    ·exact lbk hfp1 h
   ·have h := finr hfp1 h
    refine cut_at (p1.1) (some_in h) ?_
    exact weak_by
  rintro t3 rfl
  have h : _ = some _ := gt3
  refine avb ?_
  cases h;exact eq_by

theorem l_szMeaning_ok (N : Nat) (v0 : Gx.Meaning) (v1 : Int) {r : Int} (h : l_szMeaning N v0 v1 = some r) : Pure Tryz.prog 13 [DV.agg (Gx.Meaning.enc v0), DV.one (D.i v1)] (DV.one (D.i r)) := by
 refine pure_of_walk Tryz.tok Tryz.mixed Tryz.func13 (by kernel_rfl) fun W => ?_
 unfold l_szMeaning at h
 refine avb ?_
 refine lns (v0.mWord.length : Int) ?_
 refine avb ?_
 refine brb h ?_ ?_<;>intro _ h
 ·cases h;exact eq_by
 ·cases h;exact eq_by

theorem l_szMeaningS_ok (N : Nat) (v0 : List (Gx.Meaning)) (v1 : Int) {r : Int} (h : l_szMeaningS N v0 v1 = some r) : Pure Tryz.prog 25 [DV.one (D.sl 2 (List.map Gx.Meaning.enc v0)), DV.one (D.i v1)] (DV.one (D.i r)) := by
 refine pure_of_walk Tryz.tok Tryz.mixed Tryz.func25 (by kernel_rfl) fun W => ?_
 unfold l_szMeaningS at h
 refine avb ?_
 refine lns (v0.length : Int) ?_
 refine avb ?_
 refine br_sel h (fun _ h => ?_) (fun _ h => ?_)
 ·refine avb ?_
  cases h;exact eq_by
 ·refine ab0 ?_
  obtain ⟨zt3, h, gt3⟩ := cutb_some h
  refine W.r_cut (fun (t3 : Int) => ⟨[(1, .d (D.i t3))], [], 1000⟩) (fun t => .nx t = zt3) ?_ ?_
  ·refine avb ?_
   refine loop_lp (fun (p1 : Int × Int) => ⟨[(0, .d (D.sl 2 (List.map Gx.Meaning.enc v0))), (1, .d (D.i p1.1)), (5, .d (D.i p1.2))], [], 1000⟩) h ?_ ?_
   ·exact weak_by
   intro np1 p1 yp1 h hfp1
   unfold l_szMeaningS_L1 at h
   refine avb ?_
   refine lns (v0.length : Int) ?_
   refine avb ?_
   refine brb h ?_ ?_<;>intro _ h
   ·refine idx_sel h (fun x1 hx1 h => ?_)
    refine avb ?_
    refine plb ?_;refine call_sel (E := fun (x : Int) => DV.one (D.i x)) h (fun x2 h1 => (l_szMeaning_ok N x1 p1.1 h1)) (fun x2 hx2 h => ?_)
    refine avb ?_
    refine brb h ?_ ?_<;>intro _ h
    ·have h := finr hfp1 h
     have h := cutr gt3 h
     cases h;exact eq_by
    ·exact lbk hfp1 h
   ·have h := finr hfp1 h
    refine cut_at (p1.1) (some_in h) ?_
    exact weak_by
  rintro t3 rfl
  have h : _ = some _ := gt3
  refine avb ?_
  cases h;exact eq_by

theorem l_szGrid_ok (N : Nat) (v0 : Gx.Grid) (v1 : Int) {r : Int} (h : l_szGrid N v0 v1 = some r) : Pure Tryz.prog 80 [DV.agg (Gx.Grid.enc v0), DV.one (D.i v1)] (DV.one (D.i r)) := by
 refine pure_of_walk Tryz.tok Tryz.mixed Tryz.func80 (by kernel_rfl) fun W => ?_
 unfold l_szGrid at h
 refine avb ?_
 refine lns (v0.mCells.length : Int) ?_
 refine avb ?_
 refine brb h ?_ ?_<;>intro _ h
 ·cases h;exact eq_by
 ·cases h;exact eq_by

theorem l_szStep_ok (N : Nat) (v0 : Gx.Step) (v1 : Int) {r : Int} (h : l_szStep N v0 v1 = some r) : Pure Tryz.prog 246 [DV.agg (Gx.Step.enc v0), DV.one (D.i v1)] (DV.one (D.i r)) := by
 refine pure_of_walk Tryz.tok Tryz.mixed Tryz.func246 (by kernel_rfl) fun W => ?_
 unfold l_szStep at h
 refine avb ?_
 refine lns (v0.mWord.length : Int) ?_
 refine avb ?_
 refine brb h ?_ ?_<;>intro _ h
 ·cases h;exact eq_by
 ·cases h;exact eq_by

theorem l_szStepS_ok (N : Nat) (v0 : List (Gx.Step)) (v1 : Int) {r : Int} (h : l_szStepS N v0 v1 = some r) : Pure Tryz.prog 205 [DV.one (D.sl 4 (List.map Gx.Step.enc v0)), DV.one (D.i v1)] (DV.one (D.i r)) := by
 refine pure_of_walk Tryz.tok Tryz.mixed Tryz.func205 (by kernel_rfl) fun W => ?_
 unfold l_szStepS at h
 refine avb ?_
 refine lns (v0.length : Int) ?_
 refine avb ?_
 refine br_sel h (fun _ h => ?_) (fun _ h => ?_)
 ·refine avb ?_
  cases h;exact eq_by
 ·refine ab0 ?_
  obtain ⟨zt3, h, gt3⟩ := cutb_some h
  refine W.r_cut (fun (t3 : Int) => ⟨[(1, .d (D.i t3))], [], 1000⟩) (fun t => .nx t = zt3) ?_ ?_
  ·refine avb ?_
   refine loop_lp (fun (p1 : Int × Int) => ⟨[(0, .d (D.sl 4 (List.map Gx.Step.enc v0))), (1, .d (D.i p1.1)), (5, .d (D.i p1.2))], [], 1000⟩) h ?_ ?_
   ·exact weak_by
   intro np1 p1 yp1 h hfp1
   unfold l_szStepS_L1 at h
   refine avb ?_
   refine lns (v0.length : Int) ?_
   refine avb ?_
   refine brb h ?_ ?_<;>intro _ h
   ·refine idx_sel h (fun x1 hx1 h => ?_)
    refine avb ?_
    refine plb ?_;refine call_sel (E := fun (x : Int) => DV.one (D.i x)) h (fun x2 h1 => (l_szStep_ok N x1 p1.1 h1)) (fun x2 hx2 h => ?_)
    refine avb ?_
    refine brb h ?_ ?_<;>intro _ h
    ·have h := finr hfp1 h
     have h := cutr gt3 h
     cases h;exact eq_by
    ·exact lbk hfp1 h
   ·have h := finr hfp1 h
    refine cut_at (p1.1) (some_in h) ?_
    exact weak_by
  rintro t3 rfl
  have h : _ = some _ := gt3
  refine avb ?_
  cases h;exact eq_by

theorem l_szClue_ok (N : Nat) (v0 : Gx.Clue) (v1 : Int) {r : Int} (h : l_szClue N v0 v1 = some r) : Pure Tryz.prog 160 [DV.agg (Gx.Clue.enc v0), DV.one (D.i v1)] (DV.one (D.i r)) := by
 refine pure_of_walk Tryz.tok Tryz.mixed Tryz.func160 (by kernel_rfl) fun W => ?_
 unfold l_szClue at h
 refine avb ?_
 refine plb ?_;refine call_sel (E := fun (x : Int) => DV.one (D.i x)) h (fun x1 h1 => (l_szStepS_ok N v0.mPlay v1 h1)) (fun x1 hx1 h => ?_)
 refine avb ?_
 refine brb h ?_ ?_<;>intro _ h
 ·cases h;exact eq_by
 ·cases h;exact eq_by

theorem l_szClueS_ok (N : Nat) (v0 : List (Gx.Clue)) (v1 : Int) {r : Int} (h : l_szClueS N v0 v1 = some r) : Pure Tryz.prog 81 [DV.one (D.sl 2 (List.map Gx.Clue.enc v0)), DV.one (D.i v1)] (DV.one (D.i r)) := by
 refine pure_of_walk Tryz.tok Tryz.mixed Tryz.func81 (by kernel_rfl) fun W => ?_
 unfold l_szClueS at h
 refine avb ?_
 refine lns (v0.length : Int) ?_
 refine avb ?_
 refine br_sel h (fun _ h => ?_) (fun _ h => ?_)
 ·refine avb ?_
  cases h;exact eq_by
 ·refine ab0 ?_
  obtain ⟨zt3, h, gt3⟩ := cutb_some h
  refine W.r_cut (fun (t3 : Int) => ⟨[(1, .d (D.i t3))], [], 1000⟩) (fun t => .nx t = zt3) ?_ ?_
  ·refine avb ?_
   refine loop_lp (fun (p1 : Int × Int) => ⟨[(0, .d (D.sl 2 (List.map Gx.Clue.enc v0))), (1, .d (D.i p1.1)), (5, .d (D.i p1.2))], [], 1000⟩) h ?_ ?_
   ·exact weak_by
   intro np1 p1 yp1 h hfp1
   unfold l_szClueS_L1 at h
   refine avb ?_
   refine lns (v0.length : Int) ?_
   refine avb ?_
   refine brb h ?_ ?_<;>intro _ h
   ·refine idx_sel h (fun x1 hx1 h => ?_)
    refine avb ?_
    refine plb ?_;refine call_sel (E := fun (x : Int) => DV.one (D.i x)) h (fun x2 h1 => (l_szClue_ok N x1 p1.1 h1)) (fun x2 hx2 h => ?_)
    refine avb ?_
    refine brb h ?_ ?_<;>intro _ h
    ·have h := finr hfp1 h
     have h := cutr gt3 h
     cases h;exact eq_by
    ·exact lbk hfp1 h
   ·have h := finr hfp1 h
    refine cut_at (p1.1) (some_in h) ?_
    exact weak_by
  rintro t3 rfl
  have h : _ = some _ := gt3
  refine avb ?_
  cases h;exact eq_by

theorem l_szDraft_ok (N : Nat) (v0 : Gx.Draft) (v1 : Int) {r : Int} (h : l_szDraft N v0 v1 = some r) : Pure Tryz.prog 26 [DV.agg (Gx.Draft.enc v0), DV.one (D.i v1)] (DV.one (D.i r)) := by
 refine pure_of_walk Tryz.tok Tryz.mixed Tryz.func26 (by kernel_rfl) fun W => ?_
 unfold l_szDraft at h
 refine avb ?_
 refine plb ?_;refine call_sel (E := fun (x : Int) => DV.one (D.i x)) h (fun x1 h1 => (l_szGrid_ok N v0.mGrid v1 h1)) (fun x1 hx1 h => ?_)
 refine avb ?_
 refine brb h ?_ ?_<;>intro _ h
 ·cases h;exact eq_by
 ·refine lns (v0.mFill.length : Int) ?_
  refine avb ?_
  refine brb h ?_ ?_<;>intro _ h
  ·cases h;exact eq_by
  ·refine plb ?_;refine call_sel (E := fun (x : Int) => DV.one (D.i x)) h (fun x2 h1 => (l_szClueS_ok N v0.mClues (w64 (x1 - (v0.mFill.length : Int))) h1)) (fun x2 hx2 h => ?_)
   refine avb ?_
   refine brb h ?_ ?_<;>intro _ h
   ·cases h;exact eq_by
   ·cases h;exact eq_by

theorem l_szIntS_ok (N : Nat) (v0 : List (Int)) (v1 : Int) {r : Int} (h : l_szIntS N v0 v1 = some r) : Pure Tryz.prog 206 [DV.one (D.sl 1 (List.map Gx.encI v0)), DV.one (D.i v1)] (DV.one (D.i r)) := by
 refine pure_of_walk Tryz.tok Tryz.mixed Tryz.func206 (by kernel_rfl) fun W => ?_
 unfold l_szIntS at h
 refine avb ?_
 refine lns (v0.length : Int) ?_
 refine avb ?_
 refine brb h ?_ ?_<;>intro _ h
 ·cases h;exact eq_by
 ·cases h;exact eq_by

theorem l_szPuzzle_ok (N : Nat) (v0 : Gx.Puzzle) (v1 : Int) {r : Int} (h : l_szPuzzle N v0 v1 = some r) : Pure Tryz.prog 161 [DV.agg (Gx.Puzzle.enc v0), DV.one (D.i v1)] (DV.one (D.i r)) := by
 refine pure_of_walk Tryz.tok Tryz.mixed Tryz.func161 (by kernel_rfl) fun W => ?_
 unfold l_szPuzzle at h
 refine avb ?_
 refine plb ?_;refine call_sel (E := fun (x : Int) => DV.one (D.i x)) h (fun x1 h1 => (l_szGrid_ok N v0.mGrid v1 h1)) (fun x1 hx1 h => ?_)
 refine avb ?_
 refine brb h ?_ ?_<;>intro _ h
 ·cases h;exact eq_by
 ·refine plb ?_;refine call_sel (E := fun (x : Int) => DV.one (D.i x)) h (fun x2 h1 => (l_szClueS_ok N v0.mClues x1 h1)) (fun x2 hx2 h => ?_)
  refine avb ?_
  refine brb h ?_ ?_<;>intro _ h
  ·cases h;exact eq_by
  ·refine plb ?_;refine call_sel (E := fun (x : Int) => DV.one (D.i x)) h (fun x3 h1 => (l_szIntS_ok N v0.mSeals x2 h1)) (fun x3 hx3 h => ?_)
   refine avb ?_
   refine brb h ?_ ?_<;>intro _ h
   ·cases h;exact eq_by
   ·cases h;exact eq_by

theorem l_szIssue_ok (N : Nat) (v0 : Gx.Issue) (v1 : Int) {r : Int} (h : l_szIssue N v0 v1 = some r) : Pure Tryz.prog 82 [DV.agg (Gx.Issue.enc v0), DV.one (D.i v1)] (DV.one (D.i r)) := by
 refine pure_of_walk Tryz.tok Tryz.mixed Tryz.func82 (by kernel_rfl) fun W => ?_
 unfold l_szIssue at h
 refine avb ?_
 refine plb ?_;refine call_sel (E := fun (x : Int) => DV.one (D.i x)) h (fun x1 h1 => (l_szPuzzle_ok N v0.mPuzzle v1 h1)) (fun x1 hx1 h => ?_)
 refine avb ?_
 refine brb h ?_ ?_<;>intro _ h
 ·cases h;exact eq_by
 ·refine lns (v0.mFill.length : Int) ?_
  refine avb ?_
  refine brb h ?_ ?_<;>intro _ h
  ·cases h;exact eq_by
  ·cases h;exact eq_by

theorem l_szIssueS_ok (N : Nat) (v0 : List (Gx.Issue)) (v1 : Int) {r : Int} (h : l_szIssueS N v0 v1 = some r) : Pure Tryz.prog 27 [DV.one (D.sl 10 (List.map Gx.Issue.enc v0)), DV.one (D.i v1)] (DV.one (D.i r)) := by
 refine pure_of_walk Tryz.tok Tryz.mixed Tryz.func27 (by kernel_rfl) fun W => ?_
 unfold l_szIssueS at h
 refine avb ?_
 refine lns (v0.length : Int) ?_
 refine avb ?_
 refine br_sel h (fun _ h => ?_) (fun _ h => ?_)
 ·refine avb ?_
  cases h;exact eq_by
 ·refine ab0 ?_
  obtain ⟨zt3, h, gt3⟩ := cutb_some h
  refine W.r_cut (fun (t3 : Int) => ⟨[(1, .d (D.i t3))], [], 1000⟩) (fun t => .nx t = zt3) ?_ ?_
  ·refine avb ?_
   refine loop_lp (fun (p1 : Int × Int) => ⟨[(0, .d (D.sl 10 (List.map Gx.Issue.enc v0))), (1, .d (D.i p1.1)), (5, .d (D.i p1.2))], [], 1000⟩) h ?_ ?_
   ·exact weak_by
   intro np1 p1 yp1 h hfp1
   unfold l_szIssueS_L1 at h
   refine avb ?_
   refine lns (v0.length : Int) ?_
   refine avb ?_
   refine brb h ?_ ?_<;>intro _ h
   ·refine idx_sel h (fun x1 hx1 h => ?_)
    refine avb ?_
    refine plb ?_;refine call_sel (E := fun (x : Int) => DV.one (D.i x)) h (fun x2 h1 => (l_szIssue_ok N x1 p1.1 h1)) (fun x2 hx2 h => ?_)
    refine avb ?_
    refine brb h ?_ ?_<;>intro _ h
    ·have h := finr hfp1 h
     have h := cutr gt3 h
     cases h;exact eq_by
    ·exact lbk hfp1 h
   ·have h := finr hfp1 h
    refine cut_at (p1.1) (some_in h) ?_
    exact weak_by
  rintro t3 rfl
  have h : _ = some _ := gt3
  refine avb ?_
  cases h;exact eq_by

theorem l_szUsed_ok (N : Nat) (v0 : Gx.Used) (v1 : Int) {r : Int} (h : l_szUsed N v0 v1 = some r) : Pure Tryz.prog 83 [DV.agg (Gx.Used.enc v0), DV.one (D.i v1)] (DV.one (D.i r)) := by
 refine pure_of_walk Tryz.tok Tryz.mixed Tryz.func83 (by kernel_rfl) fun W => ?_
 unfold l_szUsed at h
 refine avb ?_
 refine lns (v0.mWord.length : Int) ?_
 refine avb ?_
 refine brb h ?_ ?_<;>intro _ h
 ·cases h;exact eq_by
 ·cases h;exact eq_by

theorem l_szUsedS_ok (N : Nat) (v0 : List (Gx.Used)) (v1 : Int) {r : Int} (h : l_szUsedS N v0 v1 = some r) : Pure Tryz.prog 28 [DV.one (D.sl 2 (List.map Gx.Used.enc v0)), DV.one (D.i v1)] (DV.one (D.i r)) := by
 refine pure_of_walk Tryz.tok Tryz.mixed Tryz.func28 (by kernel_rfl) fun W => ?_
 unfold l_szUsedS at h
 refine avb ?_
 refine lns (v0.length : Int) ?_
 refine avb ?_
 refine br_sel h (fun _ h => ?_) (fun _ h => ?_)
 ·refine avb ?_
  cases h;exact eq_by
 ·refine ab0 ?_
  obtain ⟨zt3, h, gt3⟩ := cutb_some h
  refine W.r_cut (fun (t3 : Int) => ⟨[(1, .d (D.i t3))], [], 1000⟩) (fun t => .nx t = zt3) ?_ ?_
  ·refine avb ?_
   refine loop_lp (fun (p1 : Int × Int) => ⟨[(0, .d (D.sl 2 (List.map Gx.Used.enc v0))), (1, .d (D.i p1.1)), (5, .d (D.i p1.2))], [], 1000⟩) h ?_ ?_
   ·exact weak_by
   intro np1 p1 yp1 h hfp1
   unfold l_szUsedS_L1 at h
   refine avb ?_
   refine lns (v0.length : Int) ?_
   refine avb ?_
   refine brb h ?_ ?_<;>intro _ h
   ·refine idx_sel h (fun x1 hx1 h => ?_)
    refine avb ?_
    refine plb ?_;refine call_sel (E := fun (x : Int) => DV.one (D.i x)) h (fun x2 h1 => (l_szUsed_ok N x1 p1.1 h1)) (fun x2 hx2 h => ?_)
    refine avb ?_
    refine brb h ?_ ?_<;>intro _ h
    ·have h := finr hfp1 h
     have h := cutr gt3 h
     cases h;exact eq_by
    ·exact lbk hfp1 h
   ·have h := finr hfp1 h
    refine cut_at (p1.1) (some_in h) ?_
    exact weak_by
  rintro t3 rfl
  have h : _ = some _ := gt3
  refine avb ?_
  cases h;exact eq_by

theorem l_szCorrection_ok (N : Nat) (v0 : Gx.Correction) (v1 : Int) {r : Int} (h : l_szCorrection N v0 v1 = some r) : Pure Tryz.prog 84 [DV.agg (Gx.Correction.enc v0), DV.one (D.i v1)] (DV.one (D.i r)) := by
 refine pure_of_walk Tryz.tok Tryz.mixed Tryz.func84 (by kernel_rfl) fun W => ?_
 unfold l_szCorrection at h
 refine avb ?_
 refine plb ?_;refine call_sel (E := fun (x : Int) => DV.one (D.i x)) h (fun x1 h1 => (l_szClue_ok N v0.mClue v1 h1)) (fun x1 hx1 h => ?_)
 refine avb ?_
 refine brb h ?_ ?_<;>intro _ h
 ·cases h;exact eq_by
 ·cases h;exact eq_by

theorem l_szCorrectionS_ok (N : Nat) (v0 : List (Gx.Correction)) (v1 : Int) {r : Int} (h : l_szCorrectionS N v0 v1 = some r) : Pure Tryz.prog 29 [DV.one (D.sl 5 (List.map Gx.Correction.enc v0)), DV.one (D.i v1)] (DV.one (D.i r)) := by
 refine pure_of_walk Tryz.tok Tryz.mixed Tryz.func29 (by kernel_rfl) fun W => ?_
 unfold l_szCorrectionS at h
 refine avb ?_
 refine lns (v0.length : Int) ?_
 refine avb ?_
 refine br_sel h (fun _ h => ?_) (fun _ h => ?_)
 ·refine avb ?_
  cases h;exact eq_by
 ·refine ab0 ?_
  obtain ⟨zt3, h, gt3⟩ := cutb_some h
  refine W.r_cut (fun (t3 : Int) => ⟨[(1, .d (D.i t3))], [], 1000⟩) (fun t => .nx t = zt3) ?_ ?_
  ·refine avb ?_
   refine loop_lp (fun (p1 : Int × Int) => ⟨[(0, .d (D.sl 5 (List.map Gx.Correction.enc v0))), (1, .d (D.i p1.1)), (5, .d (D.i p1.2))], [], 1000⟩) h ?_ ?_
   ·exact weak_by
   intro np1 p1 yp1 h hfp1
   unfold l_szCorrectionS_L1 at h
   refine avb ?_
   refine lns (v0.length : Int) ?_
   refine avb ?_
   refine brb h ?_ ?_<;>intro _ h
   ·refine idx_sel h (fun x1 hx1 h => ?_)
    refine avb ?_
    refine plb ?_;refine call_sel (E := fun (x : Int) => DV.one (D.i x)) h (fun x2 h1 => (l_szCorrection_ok N x1 p1.1 h1)) (fun x2 hx2 h => ?_)
    refine avb ?_
    refine brb h ?_ ?_<;>intro _ h
    ·have h := finr hfp1 h
     have h := cutr gt3 h
     cases h;exact eq_by
    ·exact lbk hfp1 h
   ·have h := finr hfp1 h
    refine cut_at (p1.1) (some_in h) ?_
    exact weak_by
  rintro t3 rfl
  have h : _ = some _ := gt3
  refine avb ?_
  cases h;exact eq_by

theorem l_szEntry_ok (N : Nat) (v0 : Gx.Entry) (v1 : Int) {r : Int} (h : l_szEntry N v0 v1 = some r) : Pure Tryz.prog 85 [DV.agg (Gx.Entry.enc v0), DV.one (D.i v1)] (DV.one (D.i r)) := by
 refine pure_of_walk Tryz.tok Tryz.mixed Tryz.func85 (by kernel_rfl) fun W => ?_
 unfold l_szEntry at h
 refine avb ?_
 refine lns (v0.mFill.length : Int) ?_
 refine avb ?_
 refine brb h ?_ ?_<;>intro _ h
 ·cases h;exact eq_by
 ·cases h;exact eq_by

theorem l_szEntryS_ok (N : Nat) (v0 : List (Gx.Entry)) (v1 : Int) {r : Int} (h : l_szEntryS N v0 v1 = some r) : Pure Tryz.prog 30 [DV.one (D.sl 4 (List.map Gx.Entry.enc v0)), DV.one (D.i v1)] (DV.one (D.i r)) := by
 refine pure_of_walk Tryz.tok Tryz.mixed Tryz.func30 (by kernel_rfl) fun W => ?_
 unfold l_szEntryS at h
 refine avb ?_
 refine lns (v0.length : Int) ?_
 refine avb ?_
 refine br_sel h (fun _ h => ?_) (fun _ h => ?_)
 ·refine avb ?_
  cases h;exact eq_by
 ·refine ab0 ?_
  obtain ⟨zt3, h, gt3⟩ := cutb_some h
  refine W.r_cut (fun (t3 : Int) => ⟨[(1, .d (D.i t3))], [], 1000⟩) (fun t => .nx t = zt3) ?_ ?_
  ·refine avb ?_
   refine loop_lp (fun (p1 : Int × Int) => ⟨[(0, .d (D.sl 4 (List.map Gx.Entry.enc v0))), (1, .d (D.i p1.1)), (5, .d (D.i p1.2))], [], 1000⟩) h ?_ ?_
   ·exact weak_by
   intro np1 p1 yp1 h hfp1
   unfold l_szEntryS_L1 at h
   refine avb ?_
   refine lns (v0.length : Int) ?_
   refine avb ?_
   refine brb h ?_ ?_<;>intro _ h
   ·refine idx_sel h (fun x1 hx1 h => ?_)
    refine avb ?_
    refine plb ?_;refine call_sel (E := fun (x : Int) => DV.one (D.i x)) h (fun x2 h1 => (l_szEntry_ok N x1 p1.1 h1)) (fun x2 hx2 h => ?_)
    refine avb ?_
    refine brb h ?_ ?_<;>intro _ h
    ·have h := finr hfp1 h
     have h := cutr gt3 h
     cases h;exact eq_by
    ·exact lbk hfp1 h
   ·have h := finr hfp1 h
    refine cut_at (p1.1) (some_in h) ?_
    exact weak_by
  rintro t3 rfl
  have h : _ = some _ := gt3
  refine avb ?_
  cases h;exact eq_by

theorem l_szHouse_ok (N : Nat) (v0 : Gx.House) (v1 : Int) {r : Int} (h : l_szHouse N v0 v1 = some r) : Pure Tryz.prog 7 [DV.agg (Gx.House.enc v0), DV.one (D.i v1)] (DV.one (D.i r)) := by
 refine pure_of_walk Tryz.tok Tryz.mixed Tryz.func7 (by kernel_rfl) fun W => ?_
 unfold l_szHouse at h
 refine avb ?_
 refine plb ?_;refine call_sel (E := fun (x : Int) => DV.one (D.i x)) h (fun x1 h1 => (l_szListedS_ok N v0.mList v1 h1)) (fun x1 hx1 h => ?_)
 refine avb ?_
 refine brb h ?_ ?_<;>intro _ h
 ·cases h;exact eq_by
 ·refine plb ?_;refine call_sel (E := fun (x : Int) => DV.one (D.i x)) h (fun x2 h1 => (l_szMeaningS_ok N v0.mDict x1 h1)) (fun x2 hx2 h => ?_)
  refine avb ?_
  refine brb h ?_ ?_<;>intro _ h
  ·cases h;exact eq_by
  ·refine plb ?_;refine call_sel (E := fun (x : Int) => DV.one (D.i x)) h (fun x3 h1 => (l_szDraft_ok N v0.mDesk x2 h1)) (fun x3 hx3 h => ?_)
   refine avb ?_
   refine brb h ?_ ?_<;>intro _ h
   ·cases h;exact eq_by
   ·refine plb ?_;refine call_sel (E := fun (x : Int) => DV.one (D.i x)) h (fun x4 h1 => (l_szIssueS_ok N v0.mIssues x3 h1)) (fun x4 hx4 h => ?_)
    refine avb ?_
    refine brb h ?_ ?_<;>intro _ h
    ·cases h;exact eq_by
    ·refine plb ?_;refine call_sel (E := fun (x : Int) => DV.one (D.i x)) h (fun x5 h1 => (l_szUsedS_ok N v0.mUses x4 h1)) (fun x5 hx5 h => ?_)
     refine avb ?_
     refine brb h ?_ ?_<;>intro _ h
     ·cases h;exact eq_by
     ·refine plb ?_;refine call_sel (E := fun (x : Int) => DV.one (D.i x)) h (fun x6 h1 => (l_szCorrectionS_ok N v0.mCorrections x5 h1)) (fun x6 hx6 h => ?_)
      refine avb ?_
      refine brb h ?_ ?_<;>intro _ h
      ·cases h;exact eq_by
      ·refine plb ?_;refine call_sel (E := fun (x : Int) => DV.one (D.i x)) h (fun x7 h1 => (l_szEntryS_ok N v0.mEntries x6 h1)) (fun x7 hx7 h => ?_)
       refine avb ?_
       refine brb h ?_ ?_<;>intro _ h
       ·cases h;exact eq_by
       ·cases h;exact eq_by

theorem l_toListed_ok (N : Nat) (v0 : Gx.Listed) {r : Gx.Listed} (h : l_toListed N v0 = some r) : Pure Tryz.prog 15 [DV.agg (Gx.Listed.enc v0)] (DV.agg (Gx.Listed.enc r)) := by
 refine pure_of_walk Tryz.tok Tryz.mixed Tryz.func15 (by kernel_rfl) fun W => ?_
 unfold l_toListed at h
 refine avb ?_
 cases h;exact eq_by

theorem l_toListedS_ok (N : Nat) (v0 : List (Gx.Listed)) {r : (List (Gx.Listed))} (h : l_toListedS N v0 = some r) : Pure Tryz.prog 33 [DV.one (D.sl 4 (List.map Gx.Listed.enc v0))] (DV.one (D.sl 4 (List.map Gx.Listed.enc r))) := by
 refine pure_of_walk Tryz.tok Tryz.mixed Tryz.func33 (by kernel_rfl) fun W => ?_
 unfold l_toListedS at h
 refine avb ?_
 refine lns (v0.length : Int) ?_
 refine avb ?_
 refine chk_sel h (fun q => mks_ok q (by decide)) (fun h => ?_)
 refine ab0 ?_
 obtain ⟨zt4, h, gt4⟩ := bnd_some h
 refine W.r_cut (fun (t4 : (List (Gx.Listed))) => ⟨[(3, .sl 1)], [(1, some (.arr 4 (List.map Gx.Listed.enc t4) true))], 1000⟩) (fun t => t = zt4) ?_ ?_
 ·refine avb ?_
  refine loop_lp (fun (p1 : (List (Gx.Listed)) × Int) => ⟨[(0, .d (D.sl 4 (List.map Gx.Listed.enc v0))), (3, .sl 1), (4, .d (D.i p1.2))], [(1, some (.arr 4 (List.map Gx.Listed.enc p1.1) true))], 1000⟩) h ?_ ?_
  ·exact weak_by
  intro np1 p1 yp1 h hfp1
  unfold l_toListedS_L1 at h
  refine avb ?_
  refine lns (v0.length : Int) ?_
  refine avb ?_
  refine brb h ?_ ?_<;>intro _ h
  ·refine idx_sel h (fun x1 hx1 h => ?_)
   refine avb ?_
   refine plb ?_;refine call_sel (E := fun (x : Gx.Listed) => DV.agg (Gx.Listed.enc x)) h (fun x2 h1 => (l_toListed_ok N x1 h1)) (fun x2 hx2 h => ?_)
   refine avb ?_
   refine idxp_sel h (fun x3 hx3 h => ?_)
   refine avb ?_
   refine ldp_sel hx3 ?_
   refine avb ?_
   exact lbk hfp1 h
  ·have h := finr hfp1 h
   refine cut_at (p1.1) (some_in h) ?_
   exact weak_by
 rintro t4 rfl
 have h : _ = some _ := gt4
 refine avb ?_
 cases h;exact eq_by

theorem l_toMeaning_ok (N : Nat) (v0 : Gx.Meaning) {r : Gx.Meaning} (h : l_toMeaning N v0 = some r) : Pure Tryz.prog 16 [DV.agg (Gx.Meaning.enc v0)] (DV.agg (Gx.Meaning.enc r)) := by
 refine pure_of_walk Tryz.tok Tryz.mixed Tryz.func16 (by kernel_rfl) fun W => ?_
 unfold l_toMeaning at h
 refine avb ?_
 cases h;exact eq_by

theorem l_toMeaningS_ok (N : Nat) (v0 : List (Gx.Meaning)) {r : (List (Gx.Meaning))} (h : l_toMeaningS N v0 = some r) : Pure Tryz.prog 34 [DV.one (D.sl 2 (List.map Gx.Meaning.enc v0))] (DV.one (D.sl 2 (List.map Gx.Meaning.enc r))) := by
 refine pure_of_walk Tryz.tok Tryz.mixed Tryz.func34 (by kernel_rfl) fun W => ?_
 unfold l_toMeaningS at h
 refine avb ?_
 refine lns (v0.length : Int) ?_
 refine avb ?_
 refine chk_sel h (fun q => mks_ok q (by decide)) (fun h => ?_)
 refine ab0 ?_
 obtain ⟨zt4, h, gt4⟩ := bnd_some h
 refine W.r_cut (fun (t4 : (List (Gx.Meaning))) => ⟨[(3, .sl 1)], [(1, some (.arr 2 (List.map Gx.Meaning.enc t4) true))], 1000⟩) (fun t => t = zt4) ?_ ?_
 ·refine avb ?_
  refine loop_lp (fun (p1 : (List (Gx.Meaning)) × Int) => ⟨[(0, .d (D.sl 2 (List.map Gx.Meaning.enc v0))), (3, .sl 1), (4, .d (D.i p1.2))], [(1, some (.arr 2 (List.map Gx.Meaning.enc p1.1) true))], 1000⟩) h ?_ ?_
  ·exact weak_by
  intro np1 p1 yp1 h hfp1
  unfold l_toMeaningS_L1 at h
  refine avb ?_
  refine lns (v0.length : Int) ?_
  refine avb ?_
  refine brb h ?_ ?_<;>intro _ h
  ·refine idx_sel h (fun x1 hx1 h => ?_)
   refine avb ?_
   refine plb ?_;refine call_sel (E := fun (x : Gx.Meaning) => DV.agg (Gx.Meaning.enc x)) h (fun x2 h1 => (l_toMeaning_ok N x1 h1)) (fun x2 hx2 h => ?_)
   refine avb ?_
   refine idxp_sel h (fun x3 hx3 h => ?_)
   refine avb ?_
   refine ldp_sel hx3 ?_
   refine avb ?_
   exact lbk hfp1 h
  ·have h := finr hfp1 h
   refine cut_at (p1.1) (some_in h) ?_
   exact weak_by
 rintro t4 rfl
 have h : _ = some _ := gt4
 refine avb ?_
 cases h;exact eq_by

theorem l_toGrid_ok (N : Nat) (v0 : Gx.Grid) {r : Gx.Grid} (h : l_toGrid N v0 = some r) : Pure Tryz.prog 89 [DV.agg (Gx.Grid.enc v0)] (DV.agg (Gx.Grid.enc r)) := by
 refine pure_of_walk Tryz.tok Tryz.mixed Tryz.func89 (by kernel_rfl) fun W => ?_
 unfold l_toGrid at h
 refine avb ?_
 cases h;exact eq_by

theorem l_toStep_ok (N : Nat) (v0 : Gx.Step) {r : Gx.Step} (h : l_toStep N v0 = some r) : Pure Tryz.prog 247 [DV.agg (Gx.Step.enc v0)] (DV.agg (Gx.Step.enc r)) := by
 refine pure_of_walk Tryz.tok Tryz.mixed Tryz.func247 (by kernel_rfl) fun W => ?_
 unfold l_toStep at h
 refine avb ?_
 cases h;exact eq_by

theorem l_toStepS_ok (N : Nat) (v0 : List (Gx.Step)) {r : (List (Gx.Step))} (h : l_toStepS N v0 = some r) : Pure Tryz.prog 207 [DV.one (D.sl 4 (List.map Gx.Step.enc v0))] (DV.one (D.sl 4 (List.map Gx.Step.enc r))) := by
 refine pure_of_walk Tryz.tok Tryz.mixed Tryz.func207 (by kernel_rfl) fun W => ?_
 unfold l_toStepS at h
 refine avb ?_
 refine lns (v0.length : Int) ?_
 refine avb ?_
 refine chk_sel h (fun q => mks_ok q (by decide)) (fun h => ?_)
 refine ab0 ?_
 obtain ⟨zt4, h, gt4⟩ := bnd_some h
 refine W.r_cut (fun (t4 : (List (Gx.Step))) => ⟨[(3, .sl 1)], [(1, some (.arr 4 (List.map Gx.Step.enc t4) true))], 1000⟩) (fun t => t = zt4) ?_ ?_
 ·refine avb ?_
  refine loop_lp (fun (p1 : (List (Gx.Step)) × Int) => ⟨[(0, .d (D.sl 4 (List.map Gx.Step.enc v0))), (3, .sl 1), (4, .d (D.i p1.2))], [(1, some (.arr 4 (List.map Gx.Step.enc p1.1) true))], 1000⟩) h ?_ ?_
  ·exact weak_by
  intro np1 p1 yp1 h hfp1
  unfold l_toStepS_L1 at h
  refine avb ?_
  refine lns (v0.length : Int) ?_
  refine avb ?_
  refine brb h ?_ ?_<;>intro _ h
  ·refine idx_sel h (fun x1 hx1 h => ?_)
   refine avb ?_
   refine plb ?_;refine call_sel (E := fun (x : Gx.Step) => DV.agg (Gx.Step.enc x)) h (fun x2 h1 => (l_toStep_ok N x1 h1)) (fun x2 hx2 h => ?_)
   refine avb ?_
   refine idxp_sel h (fun x3 hx3 h => ?_)
   refine avb ?_
   refine ldp_sel hx3 ?_
   refine avb ?_
   exact lbk hfp1 h
  ·have h := finr hfp1 h
   refine cut_at (p1.1) (some_in h) ?_
   exact weak_by
 rintro t4 rfl
 have h : _ = some _ := gt4
 refine avb ?_
 cases h;exact eq_by

theorem l_toClue_ok (N : Nat) (v0 : Gx.Clue) {r : Gx.Clue} (h : l_toClue N v0 = some r) : Pure Tryz.prog 164 [DV.agg (Gx.Clue.enc v0)] (DV.agg (Gx.Clue.enc r)) := by
 refine pure_of_walk Tryz.tok Tryz.mixed Tryz.func164 (by kernel_rfl) fun W => ?_
 unfold l_toClue at h
 refine avb ?_
 refine plb ?_;refine call_sel (E := fun (x : (List (Gx.Step))) => DV.one (D.sl 4 (List.map Gx.Step.enc x))) h (fun x1 h1 => (l_toStepS_ok N v0.mPlay h1)) (fun x1 hx1 h => ?_)
 refine avb ?_
 cases h;exact eq_by

theorem l_toClueS_ok (N : Nat) (v0 : List (Gx.Clue)) {r : (List (Gx.Clue))} (h : l_toClueS N v0 = some r) : Pure Tryz.prog 90 [DV.one (D.sl 2 (List.map Gx.Clue.enc v0))] (DV.one (D.sl 2 (List.map Gx.Clue.enc r))) := by
 refine pure_of_walk Tryz.tok Tryz.mixed Tryz.func90 (by kernel_rfl) fun W => ?_
 unfold l_toClueS at h
 refine avb ?_
 refine lns (v0.length : Int) ?_
 refine avb ?_
 refine chk_sel h (fun q => mks_ok q (by decide)) (fun h => ?_)
 refine ab0 ?_
 obtain ⟨zt4, h, gt4⟩ := bnd_some h
 refine W.r_cut (fun (t4 : (List (Gx.Clue))) => ⟨[(3, .sl 1)], [(1, some (.arr 2 (List.map Gx.Clue.enc t4) true))], 1000⟩) (fun t => t = zt4) ?_ ?_
 ·refine avb ?_
  refine loop_lp (fun (p1 : (List (Gx.Clue)) × Int) => ⟨[(0, .d (D.sl 2 (List.map Gx.Clue.enc v0))), (3, .sl 1), (4, .d (D.i p1.2))], [(1, some (.arr 2 (List.map Gx.Clue.enc p1.1) true))], 1000⟩) h ?_ ?_
  ·exact weak_by
  intro np1 p1 yp1 h hfp1
  unfold l_toClueS_L1 at h
  refine avb ?_
  refine lns (v0.length : Int) ?_
  refine avb ?_
  refine brb h ?_ ?_<;>intro _ h
  ·refine idx_sel h (fun x1 hx1 h => ?_)
   refine avb ?_
   refine plb ?_;refine call_sel (E := fun (x : Gx.Clue) => DV.agg (Gx.Clue.enc x)) h (fun x2 h1 => (l_toClue_ok N x1 h1)) (fun x2 hx2 h => ?_)
   refine avb ?_
   refine idxp_sel h (fun x3 hx3 h => ?_)
   refine avb ?_
   refine ldp_sel hx3 ?_
   refine avb ?_
   exact lbk hfp1 h
  ·have h := finr hfp1 h
   refine cut_at (p1.1) (some_in h) ?_
   exact weak_by
 rintro t4 rfl
 have h : _ = some _ := gt4
 refine avb ?_
 cases h;exact eq_by

theorem l_toDraft_ok (N : Nat) (v0 : Gx.Draft) {r : Gx.Draft} (h : l_toDraft N v0 = some r) : Pure Tryz.prog 35 [DV.agg (Gx.Draft.enc v0)] (DV.agg (Gx.Draft.enc r)) := by
 refine pure_of_walk Tryz.tok Tryz.mixed Tryz.func35 (by kernel_rfl) fun W => ?_
 unfold l_toDraft at h
 refine avb ?_
 refine plb ?_;refine call_sel (E := fun (x : Gx.Grid) => DV.agg (Gx.Grid.enc x)) h (fun x1 h1 => (l_toGrid_ok N v0.mGrid h1)) (fun x1 hx1 h => ?_)
 refine avb ?_
 refine plb ?_;refine call_sel (E := fun (x : (List (Gx.Clue))) => DV.one (D.sl 2 (List.map Gx.Clue.enc x))) h (fun x2 h1 => (l_toClueS_ok N v0.mClues h1)) (fun x2 hx2 h => ?_)
 refine avb ?_
 cases h;exact eq_by

theorem l_toIntS_ok (N : Nat) (v0 : List (Int)) {r : (List (Int))} (h : l_toIntS N v0 = some r) : Pure Tryz.prog 208 [DV.one (D.sl 1 (List.map Gx.encI v0))] (DV.one (D.sl 1 (List.map Gx.encI r))) := by
 refine pure_of_walk Tryz.tok Tryz.mixed Tryz.func208 (by kernel_rfl) fun W => ?_
 unfold l_toIntS at h
 refine avb ?_
 refine lns (v0.length : Int) ?_
 refine avb ?_
 refine chk_sel h (fun q => mks_ok q (by decide)) (fun h => ?_)
 refine ab0 ?_
 obtain ⟨zt3, h, gt3⟩ := bnd_some h
 refine W.r_cut (fun (t3 : (List (Int))) => ⟨[(3, .sl 1)], [(1, some (.arr 1 (List.map Gx.encI t3) true))], 1000⟩) (fun t => t = zt3) ?_ ?_
 ·refine avb ?_
  refine loop_lp (fun (p1 : (List (Int)) × Int) => ⟨[(0, .d (D.sl 1 (List.map Gx.encI v0))), (3, .sl 1), (4, .d (D.i p1.2))], [(1, some (.arr 1 (List.map Gx.encI p1.1) true))], 1000⟩) h ?_ ?_
  ·exact weak_by
  intro np1 p1 yp1 h hfp1
  unfold l_toIntS_L1 at h
  refine avb ?_
  refine lns (v0.length : Int) ?_
  refine avb ?_
  refine brb h ?_ ?_<;>intro _ h
  ·refine idx_sel h (fun x1 hx1 h => ?_)
   refine avb ?_
   refine idxp_sel h (fun x2 hx2 h => ?_)
   refine avb ?_
   refine ldp_sel hx2 ?_
   refine avb ?_
   exact lbk hfp1 h
  ·have h := finr hfp1 h
   refine cut_at (p1.1) (some_in h) ?_
   exact weak_by
 rintro t3 rfl
 have h : _ = some _ := gt3
 refine avb ?_
 cases h;exact eq_by

theorem l_toPuzzle_ok (N : Nat) (v0 : Gx.Puzzle) {r : Gx.Puzzle} (h : l_toPuzzle N v0 = some r) : Pure Tryz.prog 165 [DV.agg (Gx.Puzzle.enc v0)] (DV.agg (Gx.Puzzle.enc r)) := by
 refine pure_of_walk Tryz.tok Tryz.mixed Tryz.func165 (by kernel_rfl) fun W => ?_
 unfold l_toPuzzle at h
 refine avb ?_
 refine plb ?_;refine call_sel (E := fun (x : Gx.Grid) => DV.agg (Gx.Grid.enc x)) h (fun x1 h1 => (l_toGrid_ok N v0.mGrid h1)) (fun x1 hx1 h => ?_)
 refine avb ?_
 refine plb ?_;refine call_sel (E := fun (x : (List (Gx.Clue))) => DV.one (D.sl 2 (List.map Gx.Clue.enc x))) h (fun x2 h1 => (l_toClueS_ok N v0.mClues h1)) (fun x2 hx2 h => ?_)
 refine avb ?_
 refine plb ?_;refine call_sel (E := fun (x : (List (Int))) => DV.one (D.sl 1 (List.map Gx.encI x))) h (fun x3 h1 => (l_toIntS_ok N v0.mSeals h1)) (fun x3 hx3 h => ?_)
 refine avb ?_
 cases h;exact eq_by

theorem l_toIssue_ok (N : Nat) (v0 : Gx.Issue) {r : Gx.Issue} (h : l_toIssue N v0 = some r) : Pure Tryz.prog 91 [DV.agg (Gx.Issue.enc v0)] (DV.agg (Gx.Issue.enc r)) := by
 refine pure_of_walk Tryz.tok Tryz.mixed Tryz.func91 (by kernel_rfl) fun W => ?_
 unfold l_toIssue at h
 refine avb ?_
 refine plb ?_;refine call_sel (E := fun (x : Gx.Puzzle) => DV.agg (Gx.Puzzle.enc x)) h (fun x1 h1 => (l_toPuzzle_ok N v0.mPuzzle h1)) (fun x1 hx1 h => ?_)
 refine avb ?_
 cases h;exact eq_by

theorem l_toIssueS_ok (N : Nat) (v0 : List (Gx.Issue)) {r : (List (Gx.Issue))} (h : l_toIssueS N v0 = some r) : Pure Tryz.prog 36 [DV.one (D.sl 10 (List.map Gx.Issue.enc v0))] (DV.one (D.sl 10 (List.map Gx.Issue.enc r))) := by
 refine pure_of_walk Tryz.tok Tryz.mixed Tryz.func36 (by kernel_rfl) fun W => ?_
 unfold l_toIssueS at h
 refine avb ?_
 refine lns (v0.length : Int) ?_
 refine avb ?_
 refine chk_sel h (fun q => mks_ok q (by decide)) (fun h => ?_)
 refine ab0 ?_
 obtain ⟨zt4, h, gt4⟩ := bnd_some h
 refine W.r_cut (fun (t4 : (List (Gx.Issue))) => ⟨[(3, .sl 1)], [(1, some (.arr 10 (List.map Gx.Issue.enc t4) true))], 1000⟩) (fun t => t = zt4) ?_ ?_
 ·refine avb ?_
  refine loop_lp (fun (p1 : (List (Gx.Issue)) × Int) => ⟨[(0, .d (D.sl 10 (List.map Gx.Issue.enc v0))), (3, .sl 1), (4, .d (D.i p1.2))], [(1, some (.arr 10 (List.map Gx.Issue.enc p1.1) true))], 1000⟩) h ?_ ?_
  ·exact weak_by
  intro np1 p1 yp1 h hfp1
  unfold l_toIssueS_L1 at h
  refine avb ?_
  refine lns (v0.length : Int) ?_
  refine avb ?_
  refine brb h ?_ ?_<;>intro _ h
  ·refine idx_sel h (fun x1 hx1 h => ?_)
   refine avb ?_
   refine plb ?_;refine call_sel (E := fun (x : Gx.Issue) => DV.agg (Gx.Issue.enc x)) h (fun x2 h1 => (l_toIssue_ok N x1 h1)) (fun x2 hx2 h => ?_)
   refine avb ?_
   refine idxp_sel h (fun x3 hx3 h => ?_)
   refine avb ?_
   refine ldp_sel hx3 ?_
   refine avb ?_
   exact lbk hfp1 h
  ·have h := finr hfp1 h
   refine cut_at (p1.1) (some_in h) ?_
   exact weak_by
 rintro t4 rfl
 have h : _ = some _ := gt4
 refine avb ?_
 cases h;exact eq_by

theorem l_toUsed_ok (N : Nat) (v0 : Gx.Used) {r : Gx.Used} (h : l_toUsed N v0 = some r) : Pure Tryz.prog 92 [DV.agg (Gx.Used.enc v0)] (DV.agg (Gx.Used.enc r)) := by
 refine pure_of_walk Tryz.tok Tryz.mixed Tryz.func92 (by kernel_rfl) fun W => ?_
 unfold l_toUsed at h
 refine avb ?_
 cases h;exact eq_by

theorem l_toUsedS_ok (N : Nat) (v0 : List (Gx.Used)) {r : (List (Gx.Used))} (h : l_toUsedS N v0 = some r) : Pure Tryz.prog 37 [DV.one (D.sl 2 (List.map Gx.Used.enc v0))] (DV.one (D.sl 2 (List.map Gx.Used.enc r))) := by
 refine pure_of_walk Tryz.tok Tryz.mixed Tryz.func37 (by kernel_rfl) fun W => ?_
 unfold l_toUsedS at h
 refine avb ?_
 refine lns (v0.length : Int) ?_
 refine avb ?_
 refine chk_sel h (fun q => mks_ok q (by decide)) (fun h => ?_)
 refine ab0 ?_
 obtain ⟨zt4, h, gt4⟩ := bnd_some h
 refine W.r_cut (fun (t4 : (List (Gx.Used))) => ⟨[(3, .sl 1)], [(1, some (.arr 2 (List.map Gx.Used.enc t4) true))], 1000⟩) (fun t => t = zt4) ?_ ?_
 ·refine avb ?_
  refine loop_lp (fun (p1 : (List (Gx.Used)) × Int) => ⟨[(0, .d (D.sl 2 (List.map Gx.Used.enc v0))), (3, .sl 1), (4, .d (D.i p1.2))], [(1, some (.arr 2 (List.map Gx.Used.enc p1.1) true))], 1000⟩) h ?_ ?_
  ·exact weak_by
  intro np1 p1 yp1 h hfp1
  unfold l_toUsedS_L1 at h
  refine avb ?_
  refine lns (v0.length : Int) ?_
  refine avb ?_
  refine brb h ?_ ?_<;>intro _ h
  ·refine idx_sel h (fun x1 hx1 h => ?_)
   refine avb ?_
   refine plb ?_;refine call_sel (E := fun (x : Gx.Used) => DV.agg (Gx.Used.enc x)) h (fun x2 h1 => (l_toUsed_ok N x1 h1)) (fun x2 hx2 h => ?_)
   refine avb ?_
   refine idxp_sel h (fun x3 hx3 h => ?_)
   refine avb ?_
   refine ldp_sel hx3 ?_
   refine avb ?_
   exact lbk hfp1 h
  ·have h := finr hfp1 h
   refine cut_at (p1.1) (some_in h) ?_
   exact weak_by
 rintro t4 rfl
 have h : _ = some _ := gt4
 refine avb ?_
 cases h;exact eq_by

theorem l_toCorrection_ok (N : Nat) (v0 : Gx.Correction) {r : Gx.Correction} (h : l_toCorrection N v0 = some r) : Pure Tryz.prog 93 [DV.agg (Gx.Correction.enc v0)] (DV.agg (Gx.Correction.enc r)) := by
 refine pure_of_walk Tryz.tok Tryz.mixed Tryz.func93 (by kernel_rfl) fun W => ?_
 unfold l_toCorrection at h
 refine avb ?_
 refine plb ?_;refine call_sel (E := fun (x : Gx.Clue) => DV.agg (Gx.Clue.enc x)) h (fun x1 h1 => (l_toClue_ok N v0.mClue h1)) (fun x1 hx1 h => ?_)
 refine avb ?_
 cases h;exact eq_by

theorem l_toCorrectionS_ok (N : Nat) (v0 : List (Gx.Correction)) {r : (List (Gx.Correction))} (h : l_toCorrectionS N v0 = some r) : Pure Tryz.prog 38 [DV.one (D.sl 5 (List.map Gx.Correction.enc v0))] (DV.one (D.sl 5 (List.map Gx.Correction.enc r))) := by
 refine pure_of_walk Tryz.tok Tryz.mixed Tryz.func38 (by kernel_rfl) fun W => ?_
 unfold l_toCorrectionS at h
 refine avb ?_
 refine lns (v0.length : Int) ?_
 refine avb ?_
 refine chk_sel h (fun q => mks_ok q (by decide)) (fun h => ?_)
 refine ab0 ?_
 obtain ⟨zt4, h, gt4⟩ := bnd_some h
 refine W.r_cut (fun (t4 : (List (Gx.Correction))) => ⟨[(3, .sl 1)], [(1, some (.arr 5 (List.map Gx.Correction.enc t4) true))], 1000⟩) (fun t => t = zt4) ?_ ?_
 ·refine avb ?_
  refine loop_lp (fun (p1 : (List (Gx.Correction)) × Int) => ⟨[(0, .d (D.sl 5 (List.map Gx.Correction.enc v0))), (3, .sl 1), (4, .d (D.i p1.2))], [(1, some (.arr 5 (List.map Gx.Correction.enc p1.1) true))], 1000⟩) h ?_ ?_
  ·exact weak_by
  intro np1 p1 yp1 h hfp1
  unfold l_toCorrectionS_L1 at h
  refine avb ?_
  refine lns (v0.length : Int) ?_
  refine avb ?_
  refine brb h ?_ ?_<;>intro _ h
  ·refine idx_sel h (fun x1 hx1 h => ?_)
   refine avb ?_
   refine plb ?_;refine call_sel (E := fun (x : Gx.Correction) => DV.agg (Gx.Correction.enc x)) h (fun x2 h1 => (l_toCorrection_ok N x1 h1)) (fun x2 hx2 h => ?_)
   refine avb ?_
   refine idxp_sel h (fun x3 hx3 h => ?_)
   refine avb ?_
   refine ldp_sel hx3 ?_
   refine avb ?_
   exact lbk hfp1 h
  ·have h := finr hfp1 h
   refine cut_at (p1.1) (some_in h) ?_
   exact weak_by
 rintro t4 rfl
 have h : _ = some _ := gt4
 refine avb ?_
 cases h;exact eq_by

theorem l_toEntry_ok (N : Nat) (v0 : Gx.Entry) {r : Gx.Entry} (h : l_toEntry N v0 = some r) : Pure Tryz.prog 94 [DV.agg (Gx.Entry.enc v0)] (DV.agg (Gx.Entry.enc r)) := by
 refine pure_of_walk Tryz.tok Tryz.mixed Tryz.func94 (by kernel_rfl) fun W => ?_
 unfold l_toEntry at h
 refine avb ?_
 cases h;exact eq_by

theorem l_toEntryS_ok (N : Nat) (v0 : List (Gx.Entry)) {r : (List (Gx.Entry))} (h : l_toEntryS N v0 = some r) : Pure Tryz.prog 39 [DV.one (D.sl 4 (List.map Gx.Entry.enc v0))] (DV.one (D.sl 4 (List.map Gx.Entry.enc r))) := by
 refine pure_of_walk Tryz.tok Tryz.mixed Tryz.func39 (by kernel_rfl) fun W => ?_
 unfold l_toEntryS at h
 refine avb ?_
 refine lns (v0.length : Int) ?_
 refine avb ?_
 refine chk_sel h (fun q => mks_ok q (by decide)) (fun h => ?_)
 refine ab0 ?_
 obtain ⟨zt4, h, gt4⟩ := bnd_some h
 refine W.r_cut (fun (t4 : (List (Gx.Entry))) => ⟨[(3, .sl 1)], [(1, some (.arr 4 (List.map Gx.Entry.enc t4) true))], 1000⟩) (fun t => t = zt4) ?_ ?_
 ·refine avb ?_
  refine loop_lp (fun (p1 : (List (Gx.Entry)) × Int) => ⟨[(0, .d (D.sl 4 (List.map Gx.Entry.enc v0))), (3, .sl 1), (4, .d (D.i p1.2))], [(1, some (.arr 4 (List.map Gx.Entry.enc p1.1) true))], 1000⟩) h ?_ ?_
  ·exact weak_by
  intro np1 p1 yp1 h hfp1
  unfold l_toEntryS_L1 at h
  refine avb ?_
  refine lns (v0.length : Int) ?_
  refine avb ?_
  refine brb h ?_ ?_<;>intro _ h
  ·refine idx_sel h (fun x1 hx1 h => ?_)
   refine avb ?_
   refine plb ?_;refine call_sel (E := fun (x : Gx.Entry) => DV.agg (Gx.Entry.enc x)) h (fun x2 h1 => (l_toEntry_ok N x1 h1)) (fun x2 hx2 h => ?_)
   refine avb ?_
   refine idxp_sel h (fun x3 hx3 h => ?_)
   refine avb ?_
   refine ldp_sel hx3 ?_
   refine avb ?_
   exact lbk hfp1 h
  ·have h := finr hfp1 h
   refine cut_at (p1.1) (some_in h) ?_
   exact weak_by
 rintro t4 rfl
 have h : _ = some _ := gt4
 refine avb ?_
 cases h;exact eq_by

theorem l_toHouse_ok (N : Nat) (v0 : Gx.House) {r : Gx.House} (h : l_toHouse N v0 = some r) : Pure Tryz.prog 9 [DV.agg (Gx.House.enc v0)] (DV.agg (Gx.House.enc r)) := by
 refine pure_of_walk Tryz.tok Tryz.mixed Tryz.func9 (by kernel_rfl) fun W => ?_
 unfold l_toHouse at h
 refine avb ?_
 refine plb ?_;refine call_sel (E := fun (x : (List (Gx.Listed))) => DV.one (D.sl 4 (List.map Gx.Listed.enc x))) h (fun x1 h1 => (l_toListedS_ok N v0.mList h1)) (fun x1 hx1 h => ?_)
 refine avb ?_
 refine plb ?_;refine call_sel (E := fun (x : (List (Gx.Meaning))) => DV.one (D.sl 2 (List.map Gx.Meaning.enc x))) h (fun x2 h1 => (l_toMeaningS_ok N v0.mDict h1)) (fun x2 hx2 h => ?_)
 refine avb ?_
 refine plb ?_;refine call_sel (E := fun (x : Gx.Draft) => DV.agg (Gx.Draft.enc x)) h (fun x3 h1 => (l_toDraft_ok N v0.mDesk h1)) (fun x3 hx3 h => ?_)
 refine avb ?_
 refine plb ?_;refine call_sel (E := fun (x : (List (Gx.Issue))) => DV.one (D.sl 10 (List.map Gx.Issue.enc x))) h (fun x4 h1 => (l_toIssueS_ok N v0.mIssues h1)) (fun x4 hx4 h => ?_)
 refine avb ?_
 refine plb ?_;refine call_sel (E := fun (x : (List (Gx.Used))) => DV.one (D.sl 2 (List.map Gx.Used.enc x))) h (fun x5 h1 => (l_toUsedS_ok N v0.mUses h1)) (fun x5 hx5 h => ?_)
 refine avb ?_
 refine plb ?_;refine call_sel (E := fun (x : (List (Gx.Correction))) => DV.one (D.sl 5 (List.map Gx.Correction.enc x))) h (fun x6 h1 => (l_toCorrectionS_ok N v0.mCorrections h1)) (fun x6 hx6 h => ?_)
 refine avb ?_
 refine plb ?_;refine call_sel (E := fun (x : (List (Gx.Entry))) => DV.one (D.sl 4 (List.map Gx.Entry.enc x))) h (fun x7 h1 => (l_toEntryS_ok N v0.mEntries h1)) (fun x7 hx7 h => ?_)
 refine avb ?_
 cases h;exact eq_by

theorem s_l18Copy_ok (N : Nat) (v0 : Gx.Clue) {r : Gx.Clue} (h : s_l18Copy N v0 = some r) : Pure Tryz.prog 141 [DV.agg (Gx.Clue.enc v0)] (DV.agg (Gx.Clue.enc r)) := by
 refine pure_of_walk Tryz.tok Tryz.mixed Tryz.func141 (by kernel_rfl) fun W => ?_
 unfold s_l18Copy at h
 refine avb ?_
 refine app_sel h (app_ok (by (first|rfl|simp [sub])) (by (first|rfl|simp [sub])) (by decide)) (by (intro _; first | exact flat_map (fun _ => rfl) | exact flat_take (flat_drop (flat_map (fun _ => rfl))))) (fun h => ?_)
 refine avb ?_
 cases h;exact eq_by

theorem s_l21Clues_ok (N : Nat) (v0 : List (Gx.Clue)) {r : (List (Gx.Clue))} (h : s_l21Clues N v0 = some r) : Pure Tryz.prog 175 [DV.one (D.sl 2 (List.map Gx.Clue.enc v0))] (DV.one (D.sl 2 (List.map Gx.Clue.enc r))) := by
 refine pure_of_walk Tryz.tok Tryz.mixed Tryz.func175 (by kernel_rfl) fun W => ?_
 unfold s_l21Clues at h
 refine ab0 ?_
 refine W.r_seq ?_
 refine ab0 ?_
 refine W.r_seq ?_
 refine ab0 ?_
 obtain ⟨zt3, h, gt3⟩ := bnd_some h
 refine W.r_cut (fun (t3 : (List (Gx.Clue))) => ⟨[(3, .sl 1)], [(1, some (.arr 2 (List.map Gx.Clue.enc t3) true))], 1000⟩) (fun t => t = zt3) ?_ ?_
 ·refine avb ?_
  refine loop_lp (fun (p1 : (List (Gx.Clue)) × Int) => ⟨[(0, .d (D.sl 2 (List.map Gx.Clue.enc v0))), (3, .sl 1), (4, .d (D.i p1.2))], [(1, some (.arr 2 (List.map Gx.Clue.enc p1.1) true))], 1000⟩) h ?_ ?_
  ·exact weak_by
  intro np1 p1 yp1 h hfp1
  unfold s_l21Clues_L1 at h
  refine avb ?_
  refine lns (v0.length : Int) ?_
  refine avb ?_
  refine brb h ?_ ?_<;>intro _ h
  ·refine idx_sel h (fun x1 hx1 h => ?_)
   refine avb ?_
   refine plb ?_;refine call_sel (E := fun (x : Gx.Clue) => DV.agg (Gx.Clue.enc x)) h (fun x2 h1 => (s_l18Copy_ok N x1 h1)) (fun x2 hx2 h => ?_)
   refine avb ?_
   refine app_sel h (app_ok (by (first|rfl|simp [sub])) (by (first|rfl|simp [sub])) (by decide)) (by (intro h; cases h)) (fun h => ?_)
   refine avb ?_
   exact lbk hfp1 h
  ·have h := finr hfp1 h
   refine cut_at (p1.1) (some_in h) ?_
   exact weak_by
 rintro t3 rfl
 have h : _ = some _ := gt3
 refine avb ?_
 cases h;exact eq_by

theorem s_l27Copy_ok (N : Nat) (v0 : Gx.Draft) {r : Gx.Draft} (h : s_l27Copy N v0 = some r) : Pure Tryz.prog 108 [DV.agg (Gx.Draft.enc v0)] (DV.agg (Gx.Draft.enc r)) := by
 refine pure_of_walk Tryz.tok Tryz.mixed Tryz.func108 (by kernel_rfl) fun W => ?_
 unfold s_l27Copy at h
 refine avb ?_
 refine plb ?_;refine call_sel (E := fun (x : (List (Gx.Clue))) => DV.one (D.sl 2 (List.map Gx.Clue.enc x))) h (fun x1 h1 => (s_l21Clues_ok N v0.mClues h1)) (fun x1 hx1 h => ?_)
 refine avb ?_
 cases h;exact eq_by

theorem s_l31Copy_ok (N : Nat) (v0 : List (Gx.Correction)) {r : (List (Gx.Correction))} (h : s_l31Copy N v0 = some r) : Pure Tryz.prog 109 [DV.one (D.sl 5 (List.map Gx.Correction.enc v0))] (DV.one (D.sl 5 (List.map Gx.Correction.enc r))) := by
 refine pure_of_walk Tryz.tok Tryz.mixed Tryz.func109 (by kernel_rfl) fun W => ?_
 unfold s_l31Copy at h
 refine ab0 ?_
 refine W.r_seq ?_
 refine ab0 ?_
 refine W.r_seq ?_
 refine ab0 ?_
 obtain ⟨zt3, h, gt3⟩ := bnd_some h
 refine W.r_cut (fun (t3 : (List (Gx.Correction))) => ⟨[(3, .sl 1)], [(1, some (.arr 5 (List.map Gx.Correction.enc t3) true))], 1000⟩) (fun t => t = zt3) ?_ ?_
 ·refine avb ?_
  refine loop_lp (fun (p1 : (List (Gx.Correction)) × Int) => ⟨[(0, .d (D.sl 5 (List.map Gx.Correction.enc v0))), (3, .sl 1), (4, .d (D.i p1.2))], [(1, some (.arr 5 (List.map Gx.Correction.enc p1.1) true))], 1000⟩) h ?_ ?_
  ·exact weak_by
  intro np1 p1 yp1 h hfp1
  unfold s_l31Copy_L1 at h
  refine avb ?_
  refine lns (v0.length : Int) ?_
  refine avb ?_
  refine brb h ?_ ?_<;>intro _ h
  ·refine idx_sel h (fun x1 hx1 h => ?_)
   refine avb ?_
   refine plb ?_;refine call_sel (E := fun (x : Gx.Clue) => DV.agg (Gx.Clue.enc x)) h (fun x2 h1 => (s_l18Copy_ok N x1.mClue h1)) (fun x2 hx2 h => ?_)
   refine avb ?_
   refine app_sel h (app_ok (by (first|rfl|simp [sub])) (by (first|rfl|simp [sub])) (by decide)) (by (intro h; cases h)) (fun h => ?_)
   refine avb ?_
   exact lbk hfp1 h
  ·have h := finr hfp1 h
   refine cut_at (p1.1) (some_in h) ?_
   exact weak_by
 rintro t3 rfl
 have h : _ = some _ := gt3
 refine avb ?_
 cases h;exact eq_by

theorem s_l21Copy_ok (N : Nat) (v0 : Gx.Puzzle) {r : Gx.Puzzle} (h : s_l21Copy N v0 = some r) : Pure Tryz.prog 140 [DV.agg (Gx.Puzzle.enc v0)] (DV.agg (Gx.Puzzle.enc r)) := by
 refine pure_of_walk Tryz.tok Tryz.mixed Tryz.func140 (by kernel_rfl) fun W => ?_
 unfold s_l21Copy at h
 refine avb ?_
 refine plb ?_;refine call_sel (E := fun (x : (List (Gx.Clue))) => DV.one (D.sl 2 (List.map Gx.Clue.enc x))) h (fun x1 h1 => (s_l21Clues_ok N v0.mClues h1)) (fun x1 hx1 h => ?_)
 refine avb ?_
 refine app_sel h (app_ok (by (first|rfl|simp [sub])) (by (first|rfl|simp [sub])) (by decide)) (by (intro _; first | exact flat_map (fun _ => rfl) | exact flat_take (flat_drop (flat_map (fun _ => rfl))))) (fun h => ?_)
 refine avb ?_
 cases h;exact eq_by

theorem s_l30Copy_ok (N : Nat) (v0 : Gx.Issue) {r : Gx.Issue} (h : s_l30Copy N v0 = some r) : Pure Tryz.prog 110 [DV.agg (Gx.Issue.enc v0)] (DV.agg (Gx.Issue.enc r)) := by
 refine pure_of_walk Tryz.tok Tryz.mixed Tryz.func110 (by kernel_rfl) fun W => ?_
 unfold s_l30Copy at h
 refine avb ?_
 refine plb ?_;refine call_sel (E := fun (x : Gx.Puzzle) => DV.agg (Gx.Puzzle.enc x)) h (fun x1 h1 => (s_l21Copy_ok N v0.mPuzzle h1)) (fun x1 hx1 h => ?_)
 refine avb ?_
 cases h;exact eq_by

end Lw
end Go.Proofs
