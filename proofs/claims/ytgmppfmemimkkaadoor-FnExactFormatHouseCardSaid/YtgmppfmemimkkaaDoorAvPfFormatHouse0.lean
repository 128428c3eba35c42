/- PRINTED BY gen.py (mine): their contracts. -/
import Derived.Test.YtgmppfmemimkkaaDoorAvHpFormatHouse
namespace Go.Proofs
open Go Go.Av
set_option maxRecDepth 100000
set_option maxHeartbeats 40000000
set_option linter.unusedVariables false
set_option linter.unusedSimpArgs false
namespace Lw
theorem l_szListed_ok (N : Nat) (v0 : Gx.Listed) (v1 : Int) {r : Int} (h : l_szListed N v0 v1 = some r) : Pure Tryd.prog 54 [DV.agg (Gx.Listed.enc v0), DV.one (D.i v1)] (DV.one (D.i r)) := by
 refine pure_of_walk Tryd.tok Tryd.mixed Tryd.func54 (by kernel_rfl) fun W => ?_
 unfold l_szListed at h
 refine avb ?_
 refine lns (v0.mWord.length : Int) ?_
 refine avb ?_
 refine brb h ?_ ?_<;>intro _ h
 ·cases h;exact eq_by
 ·cases h;exact eq_by

theorem l_szListedS_ok (N : Nat) (v0 : List (Gx.Listed)) (v1 : Int) {r : Int} (h : l_szListedS N v0 v1 = some r) : Pure Tryd.prog 27 [DV.one (D.sl 4 (List.map Gx.Listed.enc v0)), DV.one (D.i v1)] (DV.one (D.i r)) := by
 refine pure_of_walk Tryd.tok Tryd.mixed Tryd.func27 (by kernel_rfl) fun W => ?_
 unfold l_szListedS at h
 refine avb ?_
 refine lns (v0.length : Int) ?_
 refine avb ?_
 refine br_sel h (fun _ h => ?_) (fun _ h => ?_)
 ·refine avb ?_
  cases h;exact eq_by
 ·refine ab0 ?_
  obtain ⟨zt3, h, gt3⟩ := cutb_some h
  refine W.r_cut (fun (t3 : Int) => ⟨[(1, .d (D.i t3))], [], 1000⟩) (fun t => .nx t = zt3) ?_ ?_
  ·refine avb ?_
   refine loop_lp (fun (p1 : Int × Int) => ⟨[(0, .d (D.sl 4 (List.map Gx.Listed.enc v0))), (1, .d (D.i p1.1)), (5, .d (D.i p1.2))], [], 1000⟩) h ?_ ?_
   ·exact weak_by
   intro np1 p1 yp1 h hfp1
   unfold l_szListedS_L1 at h
   refine avb ?_
   refine lns (v0.length : Int) ?_
   refine avb ?_
   refine brb h ?_ ?_<;>intro _ h
   ·refine idx_sel h (fun x1 hx1 h => ?_)
    refine avb ?_
    refine plb ?_;refine call_sel (E := fun (x : Int) => DV.one (D.i x)) h (fun x2 h1 => (l_szListed_ok N x1 p1.1 h1)) (fun x2 hx2 h => ?_)
    refine avb ?_
    refine brb h ?_ ?_<;>intro _ h
    ·have h := finr hfp1 h
     have h := cutr gt3 h
     cases h;exact eq_by
    ·exact lbk hfp1 h
   ·have h := finr hfp1 h
    refine cut_at (p1.1) (some_in h) ?_
    exact weak_by
  rintro t3 rfl
  have h : _ = some _ := gt3
  refine avb ?_
  cases h;exact eq_by

theorem l_szMeaning_ok (N : Nat) (v0 : Gx.Meaning) (v1 : Int) {r : Int} (h : l_szMeaning N v0 v1 = some r) : Pure Tryd.prog 55 [DV.agg (Gx.Meaning.enc v0), DV.one (D.i v1)] (DV.one (D.i r)) := by
 refine pure_of_walk Tryd.tok Tryd.mixed Tryd.func55 (by kernel_rfl) fun W => ?_
 unfold l_szMeaning at h
 refine avb ?_
 refine lns (v0.mWord.length : Int) ?_
 refine avb ?_
 refine brb h ?_ ?_<;>intro _ h
 ·cases h;exact eq_by
 ·cases h;exact eq_by

theorem l_szMeaningS_ok (N : Nat) (v0 : List (Gx.Meaning)) (v1 : Int) {r : Int} (h : l_szMeaningS N v0 v1 = some r) : Pure Tryd.prog 28 [DV.one (D.sl 2 (List.map Gx.Meaning.enc v0)), DV.one (D.i v1)] (DV.one (D.i r)) := by
 refine pure_of_walk Tryd.tok Tryd.mixed Tryd.func28 (by kernel_rfl) fun W => ?_
 unfold l_szMeaningS at h
 refine avb ?_
 refine lns (v0.length : Int) ?_
 refine avb ?_
 refine br_sel h (fun _ h => ?_) (fun _ h => ?_)
 ·refine avb ?_
  cases h;exact eq_by
 ·refine ab0 ?_
  obtain ⟨zt3, h, gt3⟩ := cutb_some h
  refine W.r_cut (fun (t3 : Int) => ⟨[(1, .d (D.i t3))], [], 1000⟩) (fun t => .nx t = zt3) ?_ ?_
  ·refine avb ?_
   refine loop_lp (fun (p1 : Int × Int) => ⟨[(0, .d (D.sl 2 (List.map Gx.Meaning.enc v0))), (1, .d (D.i p1.1)), (5, .d (D.i p1.2))], [], 1000⟩) h ?_ ?_
   ·exact weak_by
   intro np1 p1 yp1 h hfp1
   unfold l_szMeaningS_L1 at h
   refine avb ?_
   refine lns (v0.length : Int) ?_
   refine avb ?_
   refine brb h ?_ ?_<;>intro _ h
   ·refine idx_sel h (fun x1 hx1 h => ?_)
    refine avb ?_
    refine plb ?_;refine call_sel (E := fun (x : Int) => DV.one (D.i x)) h (fun x2 h1 => (l_szMeaning_ok N x1 p1.1 h1)) (fun x2 hx2 h => ?_)
    refine avb ?_
    refine brb h ?_ ?_<;>intro _ h
    ·have h := finr hfp1 h
     have h := cutr gt3 h
     cases h;exact eq_by
    ·exact lbk hfp1 h
   ·have h := finr hfp1 h
    refine cut_at (p1.1) (some_in h) ?_
    exact weak_by
  rintro t3 rfl
  have h : _ = some _ := gt3
  refine avb ?_
  cases h;exact eq_by

theorem l_szGrid_ok (N : Nat) (v0 : Gx.Grid) (v1 : Int) {r : Int} (h : l_szGrid N v0 v1 = some r) : Pure Tryd.prog 10 [DV.agg (Gx.Grid.enc v0), DV.one (D.i v1)] (DV.one (D.i r)) := by
 refine pure_of_walk Tryd.tok Tryd.mixed Tryd.func10 (by kernel_rfl) fun W => ?_
 unfold l_szGrid at h
 refine avb ?_
 refine lns (v0.mCells.length : Int) ?_
 refine avb ?_
 refine brb h ?_ ?_<;>intro _ h
 ·cases h;exact eq_by
 ·cases h;exact eq_by

theorem l_szStep_ok (N : Nat) (v0 : Gx.Step) (v1 : Int) {r : Int} (h : l_szStep N v0 v1 = some r) : Pure Tryd.prog 101 [DV.agg (Gx.Step.enc v0), DV.one (D.i v1)] (DV.one (D.i r)) := by
 refine pure_of_walk Tryd.tok Tryd.mixed Tryd.func101 (by kernel_rfl) fun W => ?_
 unfold l_szStep at h
 refine avb ?_
 refine lns (v0.mWord.length : Int) ?_
 refine avb ?_
 refine brb h ?_ ?_<;>intro _ h
 ·cases h;exact eq_by
 ·cases h;exact eq_by

theorem l_szStepS_ok (N : Nat) (v0 : List (Gx.Step)) (v1 : Int) {r : Int} (h : l_szStepS N v0 v1 = some r) : Pure Tryd.prog 91 [DV.one (D.sl 4 (List.map Gx.Step.enc v0)), DV.one (D.i v1)] (DV.one (D.i r)) := by
 refine pure_of_walk Tryd.tok Tryd.mixed Tryd.func91 (by kernel_rfl) fun W => ?_
 unfold l_szStepS at h
 refine avb ?_
 refine lns (v0.length : Int) ?_
 refine avb ?_
 refine br_sel h (fun _ h => ?_) (fun _ h => ?_)
 ·refine avb ?_
  cases h;exact eq_by
 ·refine ab0 ?_
  obtain ⟨zt3, h, gt3⟩ := cutb_some h
  refine W.r_cut (fun (t3 : Int) => ⟨[(1, .d (D.i t3))], [], 1000⟩) (fun t => .nx t = zt3) ?_ ?_
  ·refine avb ?_
   refine loop_lp (fun (p1 : Int × Int) => ⟨[(0, .d (D.sl 4 (List.map Gx.Step.enc v0))), (1, .d (D.i p1.1)), (5, .d (D.i p1.2))], [], 1000⟩) h ?_ ?_
   ·exact weak_by
   intro np1 p1 yp1 h hfp1
   unfold l_szStepS_L1 at h
   refine avb ?_
   refine lns (v0.length : Int) ?_
   refine avb ?_
   refine brb h ?_ ?_<;>intro _ h
   ·refine idx_sel h (fun x1 hx1 h => ?_)
    refine avb ?_
    refine plb ?_;refine call_sel (E := fun (x : Int) => DV.one (D.i x)) h (fun x2 h1 => (l_szStep_ok N x1 p1.1 h1)) (fun x2 hx2 h => ?_)
    refine avb ?_
    refine brb h ?_ ?_<;>intro _ h
    ·have h := finr hfp1 h
     have h := cutr gt3 h
     cases h;exact eq_by
    ·exact lbk hfp1 h
   ·have h := finr hfp1 h
    refine cut_at (p1.1) (some_in h) ?_
    exact weak_by
  rintro t3 rfl
  have h : _ = some _ := gt3
  refine avb ?_
  cases h;exact eq_by

theorem l_szClue_ok (N : Nat) (v0 : Gx.Clue) (v1 : Int) {r : Int} (h : l_szClue N v0 v1 = some r) : Pure Tryd.prog 82 [DV.agg (Gx.Clue.enc v0), DV.one (D.i v1)] (DV.one (D.i r)) := by
 refine pure_of_walk Tryd.tok Tryd.mixed Tryd.func82 (by kernel_rfl) fun W => ?_
 unfold l_szClue at h
 refine avb ?_
 refine plb ?_;refine call_sel (E := fun (x : Int) => DV.one (D.i x)) h (fun x1 h1 => (l_szStepS_ok N v0.mPlay v1 h1)) (fun x1 hx1 h => ?_)
 refine avb ?_
 refine brb h ?_ ?_<;>intro _ h
 ·cases h;exact eq_by
 ·cases h;exact eq_by

theorem l_szClueS_ok (N : Nat) (v0 : List (Gx.Clue)) (v1 : Int) {r : Int} (h : l_szClueS N v0 v1 = some r) : Pure Tryd.prog 56 [DV.one (D.sl 2 (List.map Gx.Clue.enc v0)), DV.one (D.i v1)] (DV.one (D.i r)) := by
 refine pure_of_walk Tryd.tok Tryd.mixed Tryd.func56 (by kernel_rfl) fun W => ?_
 unfold l_szClueS at h
 refine avb ?_
 refine lns (v0.length : Int) ?_
 refine avb ?_
 refine br_sel h (fun _ h => ?_) (fun _ h => ?_)
 ·refine avb ?_
  cases h;exact eq_by
 ·refine ab0 ?_
  obtain ⟨zt3, h, gt3⟩ := cutb_some h
  refine W.r_cut (fun (t3 : Int) => ⟨[(1, .d (D.i t3))], [], 1000⟩) (fun t => .nx t = zt3) ?_ ?_
  ·refine avb ?_
   refine loop_lp (fun (p1 : Int × Int) => ⟨[(0, .d (D.sl 2 (List.map Gx.Clue.enc v0))), (1, .d (D.i p1.1)), (5, .d (D.i p1.2))], [], 1000⟩) h ?_ ?_
   ·exact weak_by
   intro np1 p1 yp1 h hfp1
   unfold l_szClueS_L1 at h
   refine avb ?_
   refine lns (v0.length : Int) ?_
   refine avb ?_
   refine brb h ?_ ?_<;>intro _ h
   ·refine idx_sel h (fun x1 hx1 h => ?_)
    refine avb ?_
    refine plb ?_;refine call_sel (E := fun (x : Int) => DV.one (D.i x)) h (fun x2 h1 => (l_szClue_ok N x1 p1.1 h1)) (fun x2 hx2 h => ?_)
    refine avb ?_
    refine brb h ?_ ?_<;>intro _ h
    ·have h := finr hfp1 h
     have h := cutr gt3 h
     cases h;exact eq_by
    ·exact lbk hfp1 h
   ·have h := finr hfp1 h
    refine cut_at (p1.1) (some_in h) ?_
    exact weak_by
  rintro t3 rfl
  have h : _ = some _ := gt3
  refine avb ?_
  cases h;exact eq_by

theorem l_szDraft_ok (N : Nat) (v0 : Gx.Draft) (v1 : Int) {r : Int} (h : l_szDraft N v0 v1 = some r) : Pure Tryd.prog 29 [DV.agg (Gx.Draft.enc v0), DV.one (D.i v1)] (DV.one (D.i r)) := by
 refine pure_of_walk Tryd.tok Tryd.mixed Tryd.func29 (by kernel_rfl) fun W => ?_
 unfold l_szDraft at h
 refine avb ?_
 refine plb ?_;refine call_sel (E := fun (x : Int) => DV.one (D.i x)) h (fun x1 h1 => (l_szGrid_ok N v0.mGrid v1 h1)) (fun x1 hx1 h => ?_)
 refine avb ?_
 refine brb h ?_ ?_<;>intro _ h
 ·cases h;exact eq_by
 ·refine lns (v0.mFill.length : Int) ?_
  refine avb ?_
  refine brb h ?_ ?_<;>intro _ h
  ·cases h;exact eq_by
  ·refine plb ?_;refine call_sel (E := fun (x : Int) => DV.one (D.i x)) h (fun x2 h1 => (l_szClueS_ok N v0.mClues (w64 (x1 - (v0.mFill.length : Int))) h1)) (fun x2 hx2 h => ?_)
   refine avb ?_
   refine brb h ?_ ?_<;>intro _ h
   ·cases h;exact eq_by
   ·cases h;exact eq_by

theorem l_szIntS_ok (N : Nat) (v0 : List (Int)) (v1 : Int) {r : Int} (h : l_szIntS N v0 v1 = some r) : Pure Tryd.prog 92 [DV.one (D.sl 1 (List.map Gx.encI v0)), DV.one (D.i v1)] (DV.one (D.i r)) := by
 refine pure_of_walk Tryd.tok Tryd.mixed Tryd.func92 (by kernel_rfl) fun W => ?_
 unfold l_szIntS at h
 refine avb ?_
 refine lns (v0.length : Int) ?_
 refine avb ?_
 refine brb h ?_ ?_<;>intro _ h
 ·cases h;exact eq_by
 ·cases h;exact eq_by

theorem l_szPuzzle_ok (N : Nat) (v0 : Gx.Puzzle) (v1 : Int) {r : Int} (h : l_szPuzzle N v0 v1 = some r) : Pure Tryd.prog 83 [DV.agg (Gx.Puzzle.enc v0), DV.one (D.i v1)] (DV.one (D.i r)) := by
 refine pure_of_walk Tryd.tok Tryd.mixed Tryd.func83 (by kernel_rfl) fun W => ?_
 unfold l_szPuzzle at h
 refine avb ?_
 refine plb ?_;refine call_sel (E := fun (x : Int) => DV.one (D.i x)) h (fun x1 h1 => (l_szGrid_ok N v0.mGrid v1 h1)) (fun x1 hx1 h => ?_)
 refine avb ?_
 refine brb h ?_ ?_<;>intro _ h
 ·cases h;exact eq_by
 ·refine plb ?_;refine call_sel (E := fun (x : Int) => DV.one (D.i x)) h (fun x2 h1 => (l_szClueS_ok N v0.mClues x1 h1)) (fun x2 hx2 h => ?_)
  refine avb ?_
  refine brb h ?_ ?_<;>intro _ h
  ·cases h;exact eq_by
  ·refine plb ?_;refine call_sel (E := fun (x : Int) => DV.one (D.i x)) h (fun x3 h1 => (l_szIntS_ok N v0.mSeals x2 h1)) (fun x3 hx3 h => ?_)
   refine avb ?_
   refine brb h ?_ ?_<;>intro _ h
   ·cases h;exact eq_by
   ·cases h;exact eq_by

theorem l_szIssue_ok (N : Nat) (v0 : Gx.Issue) (v1 : Int) {r : Int} (h : l_szIssue N v0 v1 = some r) : Pure Tryd.prog 57 [DV.agg (Gx.Issue.enc v0), DV.one (D.i v1)] (DV.one (D.i r)) := by
 refine pure_of_walk Tryd.tok Tryd.mixed Tryd.func57 (by kernel_rfl) fun W => ?_
 unfold l_szIssue at h
 refine avb ?_
 refine plb ?_;refine call_sel (E := fun (x : Int) => DV.one (D.i x)) h (fun x1 h1 => (l_szPuzzle_ok N v0.mPuzzle v1 h1)) (fun x1 hx1 h => ?_)
 refine avb ?_
 refine brb h ?_ ?_<;>intro _ h
 ·cases h;exact eq_by
 ·refine lns (v0.mFill.length : Int) ?_
  refine avb ?_
  refine brb h ?_ ?_<;>intro _ h
  ·cases h;exact eq_by
  ·cases h;exact eq_by

theorem l_szIssueS_ok (N : Nat) (v0 : List (Gx.Issue)) (v1 : Int) {r : Int} (h : l_szIssueS N v0 v1 = some r) : Pure Tryd.prog 30 [DV.one (D.sl 10 (List.map Gx.Issue.enc v0)), DV.one (D.i v1)] (DV.one (D.i r)) := by
 refine pure_of_walk Tryd.tok Tryd.mixed Tryd.func30 (by kernel_rfl) fun W => ?_
 unfold l_szIssueS at h
 refine avb ?_
 refine lns (v0.length : Int) ?_
 refine avb ?_
 refine br_sel h (fun _ h => ?_) (fun _ h => ?_)
 ·refine avb ?_
  cases h;exact eq_by
 ·refine ab0 ?_
  obtain ⟨zt3, h, gt3⟩ := cutb_some h
  refine W.r_cut (fun (t3 : Int) => ⟨[(1, .d (D.i t3))], [], 1000⟩) (fun t => .nx t = zt3) ?_ ?_
  ·refine avb ?_
   refine loop_lp (fun (p1 : Int × Int) => ⟨[(0, .d (D.sl 10 (List.map Gx.Issue.enc v0))), (1, .d (D.i p1.1)), (5, .d (D.i p1.2))], [], 1000⟩) h ?_ ?_
   ·exact weak_by
   intro np1 p1 yp1 h hfp1
   unfold l_szIssueS_L1 at h
   refine avb ?_
   refine lns (v0.length : Int) ?_
   refine avb ?_
   refine brb h ?_ ?_<;>intro _ h
   ·refine idx_sel h (fun x1 hx1 h => ?_)
    refine avb ?_
    refine plb ?_;refine call_sel (E := fun (x : Int) => DV.one (D.i x)) h (fun x2 h1 => (l_szIssue_ok N x1 p1.1 h1)) (fun x2 hx2 h => ?_)
    refine avb ?_
    refine brb h ?_ ?_<;>intro _ h
    ·have h := finr hfp1 h
     have h := cutr gt3 h
     cases h;exact eq_by
    ·exact lbk hfp1 h
   ·have h := finr hfp1 h
    refine cut_at (p1.1) (some_in h) ?_
    exact weak_by
  rintro t3 rfl
  have h : _ = some _ := gt3
  refine avb ?_
  cases h;exact eq_by

theorem l_szUsed_ok (N : Nat) (v0 : Gx.Used) (v1 : Int) {r : Int} (h : l_szUsed N v0 v1 = some r) : Pure Tryd.prog 58 [DV.agg (Gx.Used.enc v0), DV.one (D.i v1)] (DV.one (D.i r)) := by
 refine pure_of_walk Tryd.tok Tryd.mixed Tryd.func58 (by kernel_rfl) fun W => ?_
 unfold l_szUsed at h
 refine avb ?_
 refine lns (v0.mWord.length : Int) ?_
 refine avb ?_
 refine brb h ?_ ?_<;>intro _ h
 ·cases h;exact eq_by
 ·cases h;exact eq_by

theorem l_szUsedS_ok (N : Nat) (v0 : List (Gx.Used)) (v1 : Int) {r : Int} (h : l_szUsedS N v0 v1 = some r) : Pure Tryd.prog 31 [DV.one (D.sl 2 (List.map Gx.Used.enc v0)), DV.one (D.i v1)] (DV.one (D.i r)) := by
 refine pure_of_walk Tryd.tok Tryd.mixed Tryd.func31 (by kernel_rfl) fun W => ?_
 unfold l_szUsedS at h
 refine avb ?_
 refine lns (v0.length : Int) ?_
 refine avb ?_
 refine br_sel h (fun _ h => ?_) (fun _ h => ?_)
 ·refine avb ?_
  cases h;exact eq_by
 ·refine ab0 ?_
  obtain ⟨zt3, h, gt3⟩ := cutb_some h
  refine W.r_cut (fun (t3 : Int) => ⟨[(1, .d (D.i t3))], [], 1000⟩) (fun t => .nx t = zt3) ?_ ?_
  ·refine avb ?_
   refine loop_lp (fun (p1 : Int × Int) => ⟨[(0, .d (D.sl 2 (List.map Gx.Used.enc v0))), (1, .d (D.i p1.1)), (5, .d (D.i p1.2))], [], 1000⟩) h ?_ ?_
   ·exact weak_by
   intro np1 p1 yp1 h hfp1
   unfold l_szUsedS_L1 at h
   refine avb ?_
   refine lns (v0.length : Int) ?_
   refine avb ?_
   refine brb h ?_ ?_<;>intro _ h
   ·refine idx_sel h (fun x1 hx1 h => ?_)
    refine avb ?_
    refine plb ?_;refine call_sel (E := fun (x : Int) => DV.one (D.i x)) h (fun x2 h1 => (l_szUsed_ok N x1 p1.1 h1)) (fun x2 hx2 h => ?_)
    refine avb ?_
    refine brb h ?_ ?_<;>intro _ h
    ·have h := finr hfp1 h
     have h := cutr gt3 h
     cases h;exact eq_by
    ·exact lbk hfp1 h
   ·have h := finr hfp1 h
    refine cut_at (p1.1) (some_in h) ?_
    exact weak_by
  rintro t3 rfl
  have h : _ = some _ := gt3
  refine avb ?_
  cases h;exact eq_by

theorem l_szCorrection_ok (N : Nat) (v0 : Gx.Correction) (v1 : Int) {r : Int} (h : l_szCorrection N v0 v1 = some r) : Pure Tryd.prog 59 [DV.agg (Gx.Correction.enc v0), DV.one (D.i v1)] (DV.one (D.i r)) := by
 refine pure_of_walk Tryd.tok Tryd.mixed Tryd.func59 (by kernel_rfl) fun W => ?_
 unfold l_szCorrection at h
 refine avb ?_
 refine plb ?_;refine call_sel (E := fun (x : Int) => DV.one (D.i x)) h (fun x1 h1 => (l_szClue_ok N v0.mClue v1 h1)) (fun x1 hx1 h => ?_)
 refine avb ?_
 refine brb h ?_ ?_<;>intro _ h
 ·cases h;exact eq_by
 ·cases h;exact eq_by

theorem l_szCorrectionS_ok (N : Nat) (v0 : List (Gx.Correction)) (v1 : Int) {r : Int} (h : l_szCorrectionS N v0 v1 = some r) : Pure Tryd.prog 32 [DV.one (D.sl 5 (List.map Gx.Correction.enc v0)), DV.one (D.i v1)] (DV.one (D.i r)) := by
 refine pure_of_walk Tryd.tok Tryd.mixed Tryd.func32 (by kernel_rfl) fun W => ?_
 unfold l_szCorrectionS at h
 refine avb ?_
 refine lns (v0.length : Int) ?_
 refine avb ?_
 refine br_sel h (fun _ h => ?_) (fun _ h => ?_)
 ·refine avb ?_
  cases h;exact eq_by
 ·refine ab0 ?_
  obtain ⟨zt3, h, gt3⟩ := cutb_some h
  refine W.r_cut (fun (t3 : Int) => ⟨[(1, .d (D.i t3))], [], 1000⟩) (fun t => .nx t = zt3) ?_ ?_
  ·refine avb ?_
   refine loop_lp (fun (p1 : Int × Int) => ⟨[(0, .d (D.sl 5 (List.map Gx.Correction.enc v0))), (1, .d (D.i p1.1)), (5, .d (D.i p1.2))], [], 1000⟩) h ?_ ?_
   ·exact weak_by
   intro np1 p1 yp1 h hfp1
   unfold l_szCorrectionS_L1 at h
   refine avb ?_
   refine lns (v0.length : Int) ?_
   refine avb ?_
   refine brb h ?_ ?_<;>intro _ h
   ·refine idx_sel h (fun x1 hx1 h => ?_)
    refine avb ?_
    refine plb ?_;refine call_sel (E := fun (x : Int) => DV.one (D.i x)) h (fun x2 h1 => (l_szCorrection_ok N x1 p1.1 h1)) (fun x2 hx2 h => ?_)
    refine avb ?_
    refine brb h ?_ ?_<;>intro _ h
    ·have h := finr hfp1 h
     have h := cutr gt3 h
     cases h;exact eq_by
    ·exact lbk hfp1 h
   ·have h := finr hfp1 h
    refine cut_at (p1.1) (some_in h) ?_
    exact weak_by
  rintro t3 rfl
  have h : _ = some _ := gt3
  refine avb ?_
  cases h;exact eq_by

theorem l_szEntry_ok (N : Nat) (v0 : Gx.Entry) (v1 : Int) {r : Int} (h : l_szEntry N v0 v1 = some r) : Pure Tryd.prog 60 [DV.agg (Gx.Entry.enc v0), DV.one (D.i v1)] (DV.one (D.i r)) := by
 refine pure_of_walk Tryd.tok Tryd.mixed Tryd.func60 (by kernel_rfl) fun W => ?_
 unfold l_szEntry at h
 refine avb ?_
 refine lns (v0.mFill.length : Int) ?_
 refine avb ?_
 refine brb h ?_ ?_<;>intro _ h
 ·cases h;exact eq_by
 ·cases h;exact eq_by

theorem l_szEntryS_ok (N : Nat) (v0 : List (Gx.Entry)) (v1 : Int) {r : Int} (h : l_szEntryS N v0 v1 = some r) : Pure Tryd.prog 33 [DV.one (D.sl 4 (List.map Gx.Entry.enc v0)), DV.one (D.i v1)] (DV.one (D.i r)) := by
 refine pure_of_walk Tryd.tok Tryd.mixed Tryd.func33 (by kernel_rfl) fun W => ?_
 unfold l_szEntryS at h
 refine avb ?_
 refine lns (v0.length : Int) ?_
 refine avb ?_
 refine br_sel h (fun _ h => ?_) (fun _ h => ?_)
 ·refine avb ?_
  cases h;exact eq_by
 ·refine ab0 ?_
  obtain ⟨zt3, h, gt3⟩ := cutb_some h
  refine W.r_cut (fun (t3 : Int) => ⟨[(1, .d (D.i t3))], [], 1000⟩) (fun t => .nx t = zt3) ?_ ?_
  ·refine avb ?_
   refine loop_lp (fun (p1 : Int × Int) => ⟨[(0, .d (D.sl 4 (List.map Gx.Entry.enc v0))), (1, .d (D.i p1.1)), (5, .d (D.i p1.2))], [], 1000⟩) h ?_ ?_
   ·exact weak_by
   intro np1 p1 yp1 h hfp1
   unfold l_szEntryS_L1 at h
   refine avb ?_
   refine lns (v0.length : Int) ?_
   refine avb ?_
   refine brb h ?_ ?_<;>intro _ h
   ·refine idx_sel h (fun x1 hx1 h => ?_)
    refine avb ?_
    refine plb ?_;refine call_sel (E := fun (x : Int) => DV.one (D.i x)) h (fun x2 h1 => (l_szEntry_ok N x1 p1.1 h1)) (fun x2 hx2 h => ?_)
    refine avb ?_
    refine brb h ?_ ?_<;>intro _ h
    ·have h := finr hfp1 h
     have h := cutr gt3 h
     cases h;exact eq_by
    ·exact lbk hfp1 h
   ·have h := finr hfp1 h
    refine cut_at (p1.1) (some_in h) ?_
    exact weak_by
  rintro t3 rfl
  have h : _ = some _ := gt3
  refine avb ?_
  cases h;exact eq_by

theorem l_szHouse_ok (N : Nat) (v0 : Gx.House) (v1 : Int) {r : Int} (h : l_szHouse N v0 v1 = some r) : Pure Tryd.prog 14 [DV.agg (Gx.House.enc v0), DV.one (D.i v1)] (DV.one (D.i r)) := by
 refine pure_of_walk Tryd.tok Tryd.mixed Tryd.func14 (by kernel_rfl) fun W => ?_
 unfold l_szHouse at h
 refine avb ?_
 refine plb ?_;refine call_sel (E := fun (x : Int) => DV.one (D.i x)) h (fun x1 h1 => (l_szListedS_ok N v0.mList v1 h1)) (fun x1 hx1 h => ?_)
 refine avb ?_
 refine brb h ?_ ?_<;>intro _ h
 ·cases h;exact eq_by
 ·refine plb ?_;refine call_sel (E := fun (x : Int) => DV.one (D.i x)) h (fun x2 h1 => (l_szMeaningS_ok N v0.mDict x1 h1)) (fun x2 hx2 h => ?_)
  refine avb ?_
  refine brb h ?_ ?_<;>intro _ h
  ·cases h;exact eq_by
  ·refine plb ?_;refine call_sel (E := fun (x : Int) => DV.one (D.i x)) h (fun x3 h1 => (l_szDraft_ok N v0.mDesk x2 h1)) (fun x3 hx3 h => ?_)
   refine avb ?_
   refine brb h ?_ ?_<;>intro _ h
   ·cases h;exact eq_by
   ·refine plb ?_;refine call_sel (E := fun (x : Int) => DV.one (D.i x)) h (fun x4 h1 => (l_szIssueS_ok N v0.mIssues x3 h1)) (fun x4 hx4 h => ?_)
    refine avb ?_
    refine brb h ?_ ?_<;>intro _ h
    ·cases h;exact eq_by
    ·refine plb ?_;refine call_sel (E := fun (x : Int) => DV.one (D.i x)) h (fun x5 h1 => (l_szUsedS_ok N v0.mUses x4 h1)) (fun x5 hx5 h => ?_)
     refine avb ?_
     refine brb h ?_ ?_<;>intro _ h
     ·cases h;exact eq_by
     ·refine plb ?_;refine call_sel (E := fun (x : Int) => DV.one (D.i x)) h (fun x6 h1 => (l_szCorrectionS_ok N v0.mCorrections x5 h1)) (fun x6 hx6 h => ?_)
      refine avb ?_
      refine brb h ?_ ?_<;>intro _ h
      ·cases h;exact eq_by
      ·refine plb ?_;refine call_sel (E := fun (x : Int) => DV.one (D.i x)) h (fun x7 h1 => (l_szEntryS_ok N v0.mEntries x6 h1)) (fun x7 hx7 h => ?_)
       refine avb ?_
       refine brb h ?_ ?_<;>intro _ h
       ·cases h;exact eq_by
       ·cases h;exact eq_by

theorem l_toListed_ok (N : Nat) (v0 : Gx.Listed) {r : Gx.Listed} (h : l_toListed N v0 = some r) : Pure Tryd.prog 61 [DV.agg (Gx.Listed.enc v0)] (DV.agg (Gx.Listed.enc r)) := by
 refine pure_of_walk Tryd.tok Tryd.mixed Tryd.func61 (by kernel_rfl) fun W => ?_
 unfold l_toListed at h
 refine avb ?_
 cases h;exact eq_by

theorem l_toListedS_ok (N : Nat) (v0 : List (Gx.Listed)) {r : (List (Gx.Listed))} (h : l_toListedS N v0 = some r) : Pure Tryd.prog 34 [DV.one (D.sl 4 (List.map Gx.Listed.enc v0))] (DV.one (D.sl 4 (List.map Gx.Listed.enc r))) := by
 refine pure_of_walk Tryd.tok Tryd.mixed Tryd.func34 (by kernel_rfl) fun W => ?_
 unfold l_toListedS at h
 refine avb ?_
 refine lns (v0.length : Int) ?_
 refine avb ?_
 refine chk_sel h (fun q => mks_ok q (by decide)) (fun h => ?_)
 refine ab0 ?_
 obtain ⟨zt4, h, gt4⟩ := bnd_some h
 refine W.r_cut (fun (t4 : (List (Gx.Listed))) => ⟨[(3, .sl 1)], [(1, some (.arr 4 (List.map Gx.Listed.enc t4) true))], 1000⟩) (fun t => t = zt4) ?_ ?_
 ·refine avb ?_
  refine loop_lp (fun (p1 : (List (Gx.Listed)) × Int) => ⟨[(0, .d (D.sl 4 (List.map Gx.Listed.enc v0))), (3, .sl 1), (4, .d (D.i p1.2))], [(1, some (.arr 4 (List.map Gx.Listed.enc p1.1) true))], 1000⟩) h ?_ ?_
  ·exact weak_by
  intro np1 p1 yp1 h hfp1
  unfold l_toListedS_L1 at h
  refine avb ?_
  refine lns (v0.length : Int) ?_
  refine avb ?_
  refine brb h ?_ ?_<;>intro _ h
  ·refine idx_sel h (fun x1 hx1 h => ?_)
   refine avb ?_
   refine plb ?_;refine call_sel (E := fun (x : Gx.Listed) => DV.agg (Gx.Listed.enc x)) h (fun x2 h1 => (l_toListed_ok N x1 h1)) (fun x2 hx2 h => ?_)
   refine avb ?_
   refine idxp_sel h (fun x3 hx3 h => ?_)
   refine avb ?_
   refine ldp_sel hx3 ?_
   refine avb ?_
   exact lbk hfp1 h
  ·have h := finr hfp1 h
   refine cut_at (p1.1) (some_in h) ?_
   exact weak_by
 rintro t4 rfl
 have h : _ = some _ := gt4
 refine avb ?_
 cases h;exact eq_by

theorem l_toMeaning_ok (N : Nat) (v0 : Gx.Meaning) {r : Gx.Meaning} (h : l_toMeaning N v0 = some r) : Pure Tryd.prog 62 [DV.agg (Gx.Meaning.enc v0)] (DV.agg (Gx.Meaning.enc r)) := by
 refine pure_of_walk Tryd.tok Tryd.mixed Tryd.func62 (by kernel_rfl) fun W => ?_
 unfold l_toMeaning at h
 refine avb ?_
 cases h;exact eq_by

theorem l_toMeaningS_ok (N : Nat) (v0 : List (Gx.Meaning)) {r : (List (Gx.Meaning))} (h : l_toMeaningS N v0 = some r) : Pure Tryd.prog 35 [DV.one (D.sl 2 (List.map Gx.Meaning.enc v0))] (DV.one (D.sl 2 (List.map Gx.Meaning.enc r))) := by
 refine pure_of_walk Tryd.tok Tryd.mixed Tryd.func35 (by kernel_rfl) fun W => ?_
 unfold l_toMeaningS at h
 refine avb ?_
 refine lns (v0.length : Int) ?_
 refine avb ?_
 refine chk_sel h (fun q => mks_ok q (by decide)) (fun h => ?_)
 refine ab0 ?_
 obtain ⟨zt4, h, gt4⟩ := bnd_some h
 refine W.r_cut (fun (t4 : (List (Gx.Meaning))) => ⟨[(3, .sl 1)], [(1, some (.arr 2 (List.map Gx.Meaning.enc t4) true))], 1000⟩) (fun t => t = zt4) ?_ ?_
 ·refine avb ?_
  refine loop_lp (fun (p1 : (List (Gx.Meaning)) × Int) => ⟨[(0, .d (D.sl 2 (List.map Gx.Meaning.enc v0))), (3, .sl 1), (4, .d (D.i p1.2))], [(1, some (.arr 2 (List.map Gx.Meaning.enc p1.1) true))], 1000⟩) h ?_ ?_
  ·exact weak_by
  intro np1 p1 yp1 h hfp1
  unfold l_toMeaningS_L1 at h
  refine avb ?_
  refine lns (v0.length : Int) ?_
  refine avb ?_
  refine brb h ?_ ?_<;>intro _ h
  ·refine idx_sel h (fun x1 hx1 h => ?_)
   refine avb ?_
   refine plb ?_;refine call_sel (E := fun (x : Gx.Meaning) => DV.agg (Gx.Meaning.enc x)) h (fun x2 h1 => (l_toMeaning_ok N x1 h1)) (fun x2 hx2 h => ?_)
   refine avb ?_
   refine idxp_sel h (fun x3 hx3 h => ?_)
   refine avb ?_
   refine ldp_sel hx3 ?_
   refine avb ?_
   exact lbk hfp1 h
  ·have h := finr hfp1 h
   refine cut_at (p1.1) (some_in h) ?_
   exact weak_by
 rintro t4 rfl
 have h : _ = some _ := gt4
 refine avb ?_
 cases h;exact eq_by

theorem l_toGrid_ok (N : Nat) (v0 : Gx.Grid) {r : Gx.Grid} (h : l_toGrid N v0 = some r) : Pure Tryd.prog 12 [DV.agg (Gx.Grid.enc v0)] (DV.agg (Gx.Grid.enc r)) := by
 refine pure_of_walk Tryd.tok Tryd.mixed Tryd.func12 (by kernel_rfl) fun W => ?_
 unfold l_toGrid at h
 refine avb ?_
 cases h;exact eq_by

theorem l_toStep_ok (N : Nat) (v0 : Gx.Step) {r : Gx.Step} (h : l_toStep N v0 = some r) : Pure Tryd.prog 102 [DV.agg (Gx.Step.enc v0)] (DV.agg (Gx.Step.enc r)) := by
 refine pure_of_walk Tryd.tok Tryd.mixed Tryd.func102 (by kernel_rfl) fun W => ?_
 unfold l_toStep at h
 refine avb ?_
 cases h;exact eq_by

theorem l_toStepS_ok (N : Nat) (v0 : List (Gx.Step)) {r : (List (Gx.Step))} (h : l_toStepS N v0 = some r) : Pure Tryd.prog 93 [DV.one (D.sl 4 (List.map Gx.Step.enc v0))] (DV.one (D.sl 4 (List.map Gx.Step.enc r))) := by
 refine pure_of_walk Tryd.tok Tryd.mixed Tryd.func93 (by kernel_rfl) fun W => ?_
 unfold l_toStepS at h
 refine avb ?_
 refine lns (v0.length : Int) ?_
 refine avb ?_
 refine chk_sel h (fun q => mks_ok q (by decide)) (fun h => ?_)
 refine ab0 ?_
 obtain ⟨zt4, h, gt4⟩ := bnd_some h
 refine W.r_cut (fun (t4 : (List (Gx.Step))) => ⟨[(3, .sl 1)], [(1, some (.arr 4 (List.map Gx.Step.enc t4) true))], 1000⟩) (fun t => t = zt4) ?_ ?_
 ·refine avb ?_
  refine loop_lp (fun (p1 : (List (Gx.Step)) × Int) => ⟨[(0, .d (D.sl 4 (List.map Gx.Step.enc v0))), (3, .sl 1), (4, .d (D.i p1.2))], [(1, some (.arr 4 (List.map Gx.Step.enc p1.1) true))], 1000⟩) h ?_ ?_
  ·exact weak_by
  intro np1 p1 yp1 h hfp1
  unfold l_toStepS_L1 at h
  refine avb ?_
  refine lns (v0.length : Int) ?_
  refine avb ?_
  refine brb h ?_ ?_<;>intro _ h
  ·refine idx_sel h (fun x1 hx1 h => ?_)
   refine avb ?_
   refine plb ?_;refine call_sel (E := fun (x : Gx.Step) => DV.agg (Gx.Step.enc x)) h (fun x2 h1 => (l_toStep_ok N x1 h1)) (fun x2 hx2 h => ?_)
   refine avb ?_
   refine idxp_sel h (fun x3 hx3 h => ?_)
   refine avb ?_
   refine ldp_sel hx3 ?_
   refine avb ?_
   exact lbk hfp1 h
  ·have h := finr hfp1 h
   refine cut_at (p1.1) (some_in h) ?_
   exact weak_by
 rintro t4 rfl
 have h : _ = some _ := gt4
 refine avb ?_
 cases h;exact eq_by

theorem l_toClue_ok (N : Nat) (v0 : Gx.Clue) {r : Gx.Clue} (h : l_toClue N v0 = some r) : Pure Tryd.prog 84 [DV.agg (Gx.Clue.enc v0)] (DV.agg (Gx.Clue.enc r)) := by
 refine pure_of_walk Tryd.tok Tryd.mixed Tryd.func84 (by kernel_rfl) fun W => ?_
 unfold l_toClue at h
 refine avb ?_
 refine plb ?_;refine call_sel (E := fun (x : (List (Gx.Step))) => DV.one (D.sl 4 (List.map Gx.Step.enc x))) h (fun x1 h1 => (l_toStepS_ok N v0.mPlay h1)) (fun x1 hx1 h => ?_)
 refine avb ?_
 cases h;exact eq_by

theorem l_toClueS_ok (N : Nat) (v0 : List (Gx.Clue)) {r : (List (Gx.Clue))} (h : l_toClueS N v0 = some r) : Pure Tryd.prog 63 [DV.one (D.sl 2 (List.map Gx.Clue.enc v0))] (DV.one (D.sl 2 (List.map Gx.Clue.enc r))) := by
 refine pure_of_walk Tryd.tok Tryd.mixed Tryd.func63 (by kernel_rfl) fun W => ?_
 unfold l_toClueS at h
 refine avb ?_
 refine lns (v0.length : Int) ?_
 refine avb ?_
 refine chk_sel h (fun q => mks_ok q (by decide)) (fun h => ?_)
 refine ab0 ?_
 obtain ⟨zt4, h, gt4⟩ := bnd_some h
 refine W.r_cut (fun (t4 : (List (Gx.Clue))) => ⟨[(3, .sl 1)], [(1, some (.arr 2 (List.map Gx.Clue.enc t4) true))], 1000⟩) (fun t => t = zt4) ?_ ?_
 ·refine avb ?_
  refine loop_lp (fun (p1 : (List (Gx.Clue)) × Int) => ⟨[(0, .d (D.sl 2 (List.map Gx.Clue.enc v0))), (3, .sl 1), (4, .d (D.i p1.2))], [(1, some (.arr 2 (List.map Gx.Clue.enc p1.1) true))], 1000⟩) h ?_ ?_
  ·exact weak_by
  intro np1 p1 yp1 h hfp1
  unfold l_toClueS_L1 at h
  refine avb ?_
  refine lns (v0.length : Int) ?_
  refine avb ?_
  refine brb h ?_ ?_<;>intro _ h
  ·refine idx_sel h (fun x1 hx1 h => ?_)
   refine avb ?_
   refine plb ?_;refine call_sel (E := fun (x : Gx.Clue) => DV.agg (Gx.Clue.enc x)) h (fun x2 h1 => (l_toClue_ok N x1 h1)) (fun x2 hx2 h => ?_)
   refine avb ?_
   refine idxp_sel h (fun x3 hx3 h => ?_)
   refine avb ?_
   refine ldp_sel hx3 ?_
   refine avb ?_
   exact lbk hfp1 h
  ·have h := finr hfp1 h
   refine cut_at (p1.1) (some_in h) ?_
   exact weak_by
 rintro t4 rfl
 have h : _ = some _ := gt4
 refine avb ?_
 cases h;exact eq_by

theorem l_toDraft_ok (N : Nat) (v0 : Gx.Draft) {r : Gx.Draft} (h : l_toDraft N v0 = some r) : Pure Tryd.prog 36 [DV.agg (Gx.Draft.enc v0)] (DV.agg (Gx.Draft.enc r)) := by
 refine pure_of_walk Tryd.tok Tryd.mixed Tryd.func36 (by kernel_rfl) fun W => ?_
 unfold l_toDraft at h
 refine avb ?_
 refine plb ?_;refine call_sel (E := fun (x : Gx.Grid) => DV.agg (Gx.Grid.enc x)) h (fun x1 h1 => (l_toGrid_ok N v0.mGrid h1)) (fun x1 hx1 h => ?_)
 refine avb ?_
 refine plb ?_;refine call_sel (E := fun (x : (List (Gx.Clue))) => DV.one (D.sl 2 (List.map Gx.Clue.enc x))) h (fun x2 h1 => (l_toClueS_ok N v0.mClues h1)) (fun x2 hx2 h => ?_)
 refine avb ?_
 cases h;exact eq_by

theorem l_toIntS_ok (N : Nat) (v0 : List (Int)) {r : (List (Int))} (h : l_toIntS N v0 = some r) : Pure Tryd.prog 7 [DV.one (D.sl 1 (List.map Gx.encI v0))] (DV.one (D.sl 1 (List.map Gx.encI r))) := by
 refine pure_of_walk Tryd.tok Tryd.mixed Tryd.func7 (by kernel_rfl) fun W => ?_
 unfold l_toIntS at h
 refine avb ?_
 refine lns (v0.length : Int) ?_
 refine avb ?_
 refine chk_sel h (fun q => mks_ok q (by decide)) (fun h => ?_)
 refine ab0 ?_
 obtain ⟨zt3, h, gt3⟩ := bnd_some h
 refine W.r_cut (fun (t3 : (List (Int))) => ⟨[(3, .sl 1)], [(1, some (.arr 1 (List.map Gx.encI t3) true))], 1000⟩) (fun t => t = zt3) ?_ ?_
 ·refine avb ?_
  refine loop_lp (fun (p1 : (List (Int)) × Int) => ⟨[(0, .d (D.sl 1 (List.map Gx.encI v0))), (3, .sl 1), (4, .d (D.i p1.2))], [(1, some (.arr 1 (List.map Gx.encI p1.1) true))], 1000⟩) h ?_ ?_
  ·exact weak_by
  intro np1 p1 yp1 h hfp1
  unfold l_toIntS_L1 at h
  refine avb ?_
  refine lns (v0.length : Int) ?_
  refine avb ?_
  refine brb h ?_ ?_<;>intro _ h
  ·refine idx_sel h (fun x1 hx1 h => ?_)
   refine avb ?_
   refine idxp_sel h (fun x2 hx2 h => ?_)
   refine avb ?_
   refine ldp_sel hx2 ?_
   refine avb ?_
   exact lbk hfp1 h
  ·have h := finr hfp1 h
   refine cut_at (p1.1) (some_in h) ?_
   exact weak_by
 rintro t3 rfl
 have h : _ = some _ := gt3
 refine avb ?_
 cases h;exact eq_by

theorem l_toPuzzle_ok (N : Nat) (v0 : Gx.Puzzle) {r : Gx.Puzzle} (h : l_toPuzzle N v0 = some r) : Pure Tryd.prog 85 [DV.agg (Gx.Puzzle.enc v0)] (DV.agg (Gx.Puzzle.enc r)) := by
 refine pure_of_walk Tryd.tok Tryd.mixed Tryd.func85 (by kernel_rfl) fun W => ?_
 unfold l_toPuzzle at h
 refine avb ?_
 refine plb ?_;refine call_sel (E := fun (x : Gx.Grid) => DV.agg (Gx.Grid.enc x)) h (fun x1 h1 => (l_toGrid_ok N v0.mGrid h1)) (fun x1 hx1 h => ?_)
 refine avb ?_
 refine plb ?_;refine call_sel (E := fun (x : (List (Gx.Clue))) => DV.one (D.sl 2 (List.map Gx.Clue.enc x))) h (fun x2 h1 => (l_toClueS_ok N v0.mClues h1)) (fun x2 hx2 h => ?_)
 refine avb ?_
 refine plb ?_;refine call_sel (E := fun (x : (List (Int))) => DV.one (D.sl 1 (List.map Gx.encI x))) h (fun x3 h1 => (l_toIntS_ok N v0.mSeals h1)) (fun x3 hx3 h => ?_)
 refine avb ?_
 cases h;exact eq_by

theorem l_toIssue_ok (N : Nat) (v0 : Gx.Issue) {r : Gx.Issue} (h : l_toIssue N v0 = some r) : Pure Tryd.prog 64 [DV.agg (Gx.Issue.enc v0)] (DV.agg (Gx.Issue.enc r)) := by
 refine pure_of_walk Tryd.tok Tryd.mixed Tryd.func64 (by kernel_rfl) fun W => ?_
 unfold l_toIssue at h
 refine avb ?_
 refine plb ?_;refine call_sel (E := fun (x : Gx.Puzzle) => DV.agg (Gx.Puzzle.enc x)) h (fun x1 h1 => (l_toPuzzle_ok N v0.mPuzzle h1)) (fun x1 hx1 h => ?_)
 refine avb ?_
 cases h;exact eq_by

theorem l_toIssueS_ok (N : Nat) (v0 : List (Gx.Issue)) {r : (List (Gx.Issue))} (h : l_toIssueS N v0 = some r) : Pure Tryd.prog 37 [DV.one (D.sl 10 (List.map Gx.Issue.enc v0))] (DV.one (D.sl 10 (List.map Gx.Issue.enc r))) := by
 refine pure_of_walk Tryd.tok Tryd.mixed Tryd.func37 (by kernel_rfl) fun W => ?_
 unfold l_toIssueS at h
 refine avb ?_
 refine lns (v0.length : Int) ?_
 refine avb ?_
 refine chk_sel h (fun q => mks_ok q (by decide)) (fun h => ?_)
 refine ab0 ?_
 obtain ⟨zt4, h, gt4⟩ := bnd_some h
 refine W.r_cut (fun (t4 : (List (Gx.Issue))) => ⟨[(3, .sl 1)], [(1, some (.arr 10 (List.map Gx.Issue.enc t4) true))], 1000⟩) (fun t => t = zt4) ?_ ?_
 ·refine avb ?_
  refine loop_lp (fun (p1 : (List (Gx.Issue)) × Int) => ⟨[(0, .d (D.sl 10 (List.map Gx.Issue.enc v0))), (3, .sl 1), (4, .d (D.i p1.2))], [(1, some (.arr 10 (List.map Gx.Issue.enc p1.1) true))], 1000⟩) h ?_ ?_
  ·exact weak_by
  intro np1 p1 yp1 h hfp1
  unfold l_toIssueS_L1 at h
  refine avb ?_
  refine lns (v0.length : Int) ?_
  refine avb ?_
  refine brb h ?_ ?_<;>intro _ h
  ·refine idx_sel h (fun x1 hx1 h => ?_)
   refine avb ?_
   refine plb ?_;refine call_sel (E := fun (x : Gx.Issue) => DV.agg (Gx.Issue.enc x)) h (fun x2 h1 => (l_toIssue_ok N x1 h1)) (fun x2 hx2 h => ?_)
   refine avb ?_
   refine idxp_sel h (fun x3 hx3 h => ?_)
   refine avb ?_
   refine ldp_sel hx3 ?_
   refine avb ?_
   exact lbk hfp1 h
  ·have h := finr hfp1 h
   refine cut_at (p1.1) (some_in h) ?_
   exact weak_by
 rintro t4 rfl
 have h : _ = some _ := gt4
 refine avb ?_
 cases h;exact eq_by

theorem l_toUsed_ok (N : Nat) (v0 : Gx.Used) {r : Gx.Used} (h : l_toUsed N v0 = some r) : Pure Tryd.prog 65 [DV.agg (Gx.Used.enc v0)] (DV.agg (Gx.Used.enc r)) := by
 refine pure_of_walk Tryd.tok Tryd.mixed Tryd.func65 (by kernel_rfl) fun W => ?_
 unfold l_toUsed at h
 refine avb ?_
 cases h;exact eq_by

theorem l_toUsedS_ok (N : Nat) (v0 : List (Gx.Used)) {r : (List (Gx.Used))} (h : l_toUsedS N v0 = some r) : Pure Tryd.prog 38 [DV.one (D.sl 2 (List.map Gx.Used.enc v0))] (DV.one (D.sl 2 (List.map Gx.Used.enc r))) := by
 refine pure_of_walk Tryd.tok Tryd.mixed Tryd.func38 (by kernel_rfl) fun W => ?_
 unfold l_toUsedS at h
 refine avb ?_
 refine lns (v0.length : Int) ?_
 refine avb ?_
 refine chk_sel h (fun q => mks_ok q (by decide)) (fun h => ?_)
 refine ab0 ?_
 obtain ⟨zt4, h, gt4⟩ := bnd_some h
 refine W.r_cut (fun (t4 : (List (Gx.Used))) => ⟨[(3, .sl 1)], [(1, some (.arr 2 (List.map Gx.Used.enc t4) true))], 1000⟩) (fun t => t = zt4) ?_ ?_
 ·refine avb ?_
  refine loop_lp (fun (p1 : (List (Gx.Used)) × Int) => ⟨[(0, .d (D.sl 2 (List.map Gx.Used.enc v0))), (3, .sl 1), (4, .d (D.i p1.2))], [(1, some (.arr 2 (List.map Gx.Used.enc p1.1) true))], 1000⟩) h ?_ ?_
  ·exact weak_by
  intro np1 p1 yp1 h hfp1
  unfold l_toUsedS_L1 at h
  refine avb ?_
  refine lns (v0.length : Int) ?_
  refine avb ?_
  refine brb h ?_ ?_<;>intro _ h
  ·refine idx_sel h (fun x1 hx1 h => ?_)
   refine avb ?_
   refine plb ?_;refine call_sel (E := fun (x : Gx.Used) => DV.agg (Gx.Used.enc x)) h (fun x2 h1 => (l_toUsed_ok N x1 h1)) (fun x2 hx2 h => ?_)
   refine avb ?_
   refine idxp_sel h (fun x3 hx3 h => ?_)
   refine avb ?_
   refine ldp_sel hx3 ?_
   refine avb ?_
   exact lbk hfp1 h
  ·have h := finr hfp1 h
   refine cut_at (p1.1) (some_in h) ?_
   exact weak_by
 rintro t4 rfl
 have h : _ = some _ := gt4
 refine avb ?_
 cases h;exact eq_by

theorem l_toCorrection_ok (N : Nat) (v0 : Gx.Correction) {r : Gx.Correction} (h : l_toCorrection N v0 = some r) : Pure Tryd.prog 66 [DV.agg (Gx.Correction.enc v0)] (DV.agg (Gx.Correction.enc r)) := by
 refine pure_of_walk Tryd.tok Tryd.mixed Tryd.func66 (by kernel_rfl) fun W => ?_
 unfold l_toCorrection at h
 refine avb ?_
 refine plb ?_;refine call_sel (E := fun (x : Gx.Clue) => DV.agg (Gx.Clue.enc x)) h (fun x1 h1 => (l_toClue_ok N v0.mClue h1)) (fun x1 hx1 h => ?_)
 refine avb ?_
 cases h;exact eq_by

theorem l_toCorrectionS_ok (N : Nat) (v0 : List (Gx.Correction)) {r : (List (Gx.Correction))} (h : l_toCorrectionS N v0 = some r) : Pure Tryd.prog 39 [DV.one (D.sl 5 (List.map Gx.Correction.enc v0))] (DV.one (D.sl 5 (List.map Gx.Correction.enc r))) := by
 refine pure_of_walk Tryd.tok Tryd.mixed Tryd.func39 (by kernel_rfl) fun W => ?_
 unfold l_toCorrectionS at h
 refine avb ?_
 refine lns (v0.length : Int) ?_
 refine avb ?_
 refine chk_sel h (fun q => mks_ok q (by decide)) (fun h => ?_)
 refine ab0 ?_
 obtain ⟨zt4, h, gt4⟩ := bnd_some h
 refine W.r_cut (fun (t4 : (List (Gx.Correction))) => ⟨[(3, .sl 1)], [(1, some (.arr 5 (List.map Gx.Correction.enc t4) true))], 1000⟩) (fun t => t = zt4) ?_ ?_
 ·refine avb ?_
  refine loop_lp (fun (p1 : (List (Gx.Correction)) × Int) => ⟨[(0, .d (D.sl 5 (List.map Gx.Correction.enc v0))), (3, .sl 1), (4, .d (D.i p1.2))], [(1, some (.arr 5 (List.map Gx.Correction.enc p1.1) true))], 1000⟩) h ?_ ?_
  ·exact weak_by
  intro np1 p1 yp1 h hfp1
  unfold l_toCorrectionS_L1 at h
  refine avb ?_
  refine lns (v0.length : Int) ?_
  refine avb ?_
  refine brb h ?_ ?_<;>intro _ h
  ·refine idx_sel h (fun x1 hx1 h => ?_)
   refine avb ?_
   refine plb ?_;refine call_sel (E := fun (x : Gx.Correction) => DV.agg (Gx.Correction.enc x)) h (fun x2 h1 => (l_toCorrection_ok N x1 h1)) (fun x2 hx2 h => ?_)
   refine avb ?_
   refine idxp_sel h (fun x3 hx3 h => ?_)
   refine avb ?_
   refine ldp_sel hx3 ?_
   refine avb ?_
   exact lbk hfp1 h
  ·have h := finr hfp1 h
   refine cut_at (p1.1) (some_in h) ?_
   exact weak_by
 rintro t4 rfl
 have h : _ = some _ := gt4
 refine avb ?_
 cases h;exact eq_by

theorem l_toEntry_ok (N : Nat) (v0 : Gx.Entry) {r : Gx.Entry} (h : l_toEntry N v0 = some r) : Pure Tryd.prog 67 [DV.agg (Gx.Entry.enc v0)] (DV.agg (Gx.Entry.enc r)) := by
 refine pure_of_walk Tryd.tok Tryd.mixed Tryd.func67 (by kernel_rfl) fun W => ?_
 unfold l_toEntry at h
 refine avb ?_
 cases h;exact eq_by

theorem l_toEntryS_ok (N : Nat) (v0 : List (Gx.Entry)) {r : (List (Gx.Entry))} (h : l_toEntryS N v0 = some r) : Pure Tryd.prog 40 [DV.one (D.sl 4 (List.map Gx.Entry.enc v0))] (DV.one (D.sl 4 (List.map Gx.Entry.enc r))) := by
 refine pure_of_walk Tryd.tok Tryd.mixed Tryd.func40 (by kernel_rfl) fun W => ?_
 unfold l_toEntryS at h
 refine avb ?_
 refine lns (v0.length : Int) ?_
 refine avb ?_
 refine chk_sel h (fun q => mks_ok q (by decide)) (fun h => ?_)
 refine ab0 ?_
 obtain ⟨zt4, h, gt4⟩ := bnd_some h
 refine W.r_cut (fun (t4 : (List (Gx.Entry))) => ⟨[(3, .sl 1)], [(1, some (.arr 4 (List.map Gx.Entry.enc t4) true))], 1000⟩) (fun t => t = zt4) ?_ ?_
 ·refine avb ?_
  refine loop_lp (fun (p1 : (List (Gx.Entry)) × Int) => ⟨[(0, .d (D.sl 4 (List.map Gx.Entry.enc v0))), (3, .sl 1), (4, .d (D.i p1.2))], [(1, some (.arr 4 (List.map Gx.Entry.enc p1.1) true))], 1000⟩) h ?_ ?_
  ·exact weak_by
  intro np1 p1 yp1 h hfp1
  unfold l_toEntryS_L1 at h
  refine avb ?_
  refine lns (v0.length : Int) ?_
  refine avb ?_
  refine brb h ?_ ?_<;>intro _ h
  ·refine idx_sel h (fun x1 hx1 h => ?_)
   refine avb ?_
   refine plb ?_;refine call_sel (E := fun (x : Gx.Entry) => DV.agg (Gx.Entry.enc x)) h (fun x2 h1 => (l_toEntry_ok N x1 h1)) (fun x2 hx2 h => ?_)
   refine avb ?_
   refine idxp_sel h (fun x3 hx3 h => ?_)
   refine avb ?_
   refine ldp_sel hx3 ?_
   refine avb ?_
   exact lbk hfp1 h
  ·have h := finr hfp1 h
   refine cut_at (p1.1) (some_in h) ?_
   exact weak_by
 rintro t4 rfl
 have h : _ = some _ := gt4
 refine avb ?_
 cases h;exact eq_by

theorem l_toHouse_ok (N : Nat) (v0 : Gx.House) {r : Gx.House} (h : l_toHouse N v0 = some r) : Pure Tryd.prog 16 [DV.agg (Gx.House.enc v0)] (DV.agg (Gx.House.enc r)) := by
 refine pure_of_walk Tryd.tok Tryd.mixed Tryd.func16 (by kernel_rfl) fun W => ?_
 unfold l_toHouse at h
 refine avb ?_
 refine plb ?_;refine call_sel (E := fun (x : (List (Gx.Listed))) => DV.one (D.sl 4 (List.map Gx.Listed.enc x))) h (fun x1 h1 => (l_toListedS_ok N v0.mList h1)) (fun x1 hx1 h => ?_)
 refine avb ?_
 refine plb ?_;refine call_sel (E := fun (x : (List (Gx.Meaning))) => DV.one (D.sl 2 (List.map Gx.Meaning.enc x))) h (fun x2 h1 => (l_toMeaningS_ok N v0.mDict h1)) (fun x2 hx2 h => ?_)
 refine avb ?_
 refine plb ?_;refine call_sel (E := fun (x : Gx.Draft) => DV.agg (Gx.Draft.enc x)) h (fun x3 h1 => (l_toDraft_ok N v0.mDesk h1)) (fun x3 hx3 h => ?_)
 refine avb ?_
 refine plb ?_;refine call_sel (E := fun (x : (List (Gx.Issue))) => DV.one (D.sl 10 (List.map Gx.Issue.enc x))) h (fun x4 h1 => (l_toIssueS_ok N v0.mIssues h1)) (fun x4 hx4 h => ?_)
 refine avb ?_
 refine plb ?_;refine call_sel (E := fun (x : (List (Gx.Used))) => DV.one (D.sl 2 (List.map Gx.Used.enc x))) h (fun x5 h1 => (l_toUsedS_ok N v0.mUses h1)) (fun x5 hx5 h => ?_)
 refine avb ?_
 refine plb ?_;refine call_sel (E := fun (x : (List (Gx.Correction))) => DV.one (D.sl 5 (List.map Gx.Correction.enc x))) h (fun x6 h1 => (l_toCorrectionS_ok N v0.mCorrections h1)) (fun x6 hx6 h => ?_)
 refine avb ?_
 refine plb ?_;refine call_sel (E := fun (x : (List (Gx.Entry))) => DV.one (D.sl 4 (List.map Gx.Entry.enc x))) h (fun x7 h1 => (l_toEntryS_ok N v0.mEntries h1)) (fun x7 hx7 h => ?_)
 refine avb ?_
 cases h;exact eq_by

theorem s_FormatInt_ok (N : Nat) (v0 : Int) {r : (List UInt8)} (h : s_FormatInt N v0 = some r) : Pure Tryd.prog 19 [DV.one (D.i v0)] (DV.one (D.s r)) := by
 refine pure_of_walk Tryd.tok Tryd.mixed Tryd.func19 (by kernel_rfl) fun W => ?_
 unfold s_FormatInt at h
 refine avb ?_
 refine br_sel h (fun _ h => ?_) (fun _ h => ?_)
 ·refine avb ?_
  cases h;exact eq_by
 ·refine ab0 ?_
  refine W.r_seq ?_
  refine ab0 ?_
  obtain ⟨zt2, h, gt2⟩ := bnd_some h
  refine W.r_cut (fun (t2 : (List UInt8)) => ⟨[(0, .d (D.i v0)), (3, .d (D.s t2))], [], 1000⟩) (fun t => t = zt2) ?_ ?_
  ·refine avb ?_
   refine loop_lp (fun (p1 : (List UInt8) × Int) => ⟨[(0, .d (D.i v0)), (3, .d (D.s p1.1)), (4, .d (D.i p1.2))], [], 1000⟩) h ?_ ?_
   ·exact weak_by
   intro np1 p1 yp1 h hfp1
   unfold s_FormatInt_L1 at h
   refine avb ?_
   refine brb h ?_ ?_<;>intro _ h
   ·refine chk_sel h (fun q => q) (fun h => ?_)
    refine ab0 ?_
    obtain ⟨zt1, h, gt1⟩ := bnd_some h
    refine W.r_cut (fun (t1 : Int) => ⟨[(0, .d (D.i v0)), (3, .d (D.s p1.1)), (4, .d (D.i p1.2)), (5, .d (D.i t1))], [], 1000⟩) (fun t => t = zt1) ?_ ?_
    ·refine avb ?_
     refine brb h ?_ ?_<;>intro _ h
     ·refine cut_at (w64 (0 - (Int.tmod p1.2 10))) (some_in h) ?_
      exact weak_by
     ·refine cut_at (Int.tmod p1.2 10) (some_in h) ?_
      exact weak_by
    rintro t1 rfl
    have h : _ = some _ := gt1
    refine avb ?_
    refine ⟨[UInt8.ofInt (IntKind.u8.wrap (w64 (48 + t1)))], (by (exact eq_by)), ?_⟩
    refine avb ?_
    refine chk_sel h (fun q => Nat.le_trans q (by decide)) (fun h => ?_)
    refine avb ?_
    refine chk_sel h (fun q => q) (fun h => ?_)
    refine avb ?_
    exact lbk hfp1 h
   ·have h := finr hfp1 h
    refine cut_at (p1.1) (some_in h) ?_
    exact weak_by
  rintro t2 rfl
  have h : _ = some _ := gt2
  refine avb ?_
  refine brb h ?_ ?_<;>intro _ h
  ·refine chk_sel h (fun q => Nat.le_trans q (by decide)) (fun h => ?_)
   refine avb ?_
   cases h;exact eq_by
  ·cases h;exact eq_by

theorem s_l39Join_ok (N : Nat) (v0 : List (List UInt8)) (v1 : List UInt8) {r : (List UInt8)} (h : s_l39Join N v0 v1 = some r) : Pure Tryd.prog 20 [DV.one (D.sl 1 (List.map Gx.encS v0)), DV.one (D.s v1)] (DV.one (D.s r)) := by
 refine pure_of_walk Tryd.tok Tryd.mixed Tryd.func20 (by kernel_rfl) fun W => ?_
 unfold s_l39Join at h
 refine ab0 ?_
 refine W.r_seq ?_
 refine ab0 ?_
 refine W.r_seq ?_
 refine ab0 ?_
 obtain ⟨zt3, h, gt3⟩ := bnd_some h
 refine W.r_cut (fun (t3 : (List UInt8)) => ⟨[(0, .d (D.sl 1 (List.map Gx.encS v0))), (5, .d (D.s t3))], [], 1000⟩) (fun t => t = zt3) ?_ ?_
 ·refine avb ?_
  refine loop_lp (fun (p1 : (List UInt8) × Int) => ⟨[(0, .d (D.sl 1 (List.map Gx.encS v0))), (1, .d (D.s v1)), (5, .d (D.s p1.1)), (6, .d (D.i p1.2))], [], 1000⟩) h ?_ ?_
  ·exact weak_by
  intro np1 p1 yp1 h hfp1
  unfold s_l39Join_L1 at h
  refine avb ?_
  refine lns (v0.length : Int) ?_
  refine avb ?_
  refine br_sel h (fun _ h => ?_) (fun _ h => ?_)
  ·refine ab0 ?_
   refine W.r_seq ?_
   refine ab0 ?_
   obtain ⟨zt1, h, gt1⟩ := bnd_some h
   refine W.r_cut (fun (t1 : (List UInt8)) => ⟨[(0, .d (D.sl 1 (List.map Gx.encS v0))), (1, .d (D.s v1)), (5, .d (D.s t1)), (6, .d (D.i p1.2))], [], 1000⟩) (fun t => t = zt1) ?_ ?_
   ·refine avb ?_
    refine brb h ?_ ?_<;>intro _ h
    ·refine chk_sel h (fun q => Nat.le_trans q (by decide)) (fun h => ?_)
     refine avb ?_
     refine cut_at (p1.1 ++ v1) (some_in h) ?_
     exact weak_by
    ·refine cut_at (p1.1) (some_in h) ?_
     exact weak_by
   rintro t1 rfl
   have h : _ = some _ := gt1
   refine avb ?_
   refine idx_sel h (fun x2 hx2 h => ?_)
   refine avb ?_
   refine chk_sel h (fun q => Nat.le_trans q (by decide)) (fun h => ?_)
   refine avb ?_
   exact lbk hfp1 h
  ·refine avb ?_
   have h := finr hfp1 h
   refine cut_at (p1.1) (some_in h) ?_
   exact weak_by
 rintro t3 rfl
 have h : _ = some _ := gt3
 refine avb ?_
 refine lns (v0.length : Int) ?_
 refine avb ?_
 refine brb h ?_ ?_<;>intro _ h
 ·cases h;exact eq_by
 ·cases h;exact eq_by

theorem s_FormatNumbers_ok (N : Nat) (v0 : List (Int)) {r : (List UInt8)} (h : s_FormatNumbers N v0 = some r) : Pure Tryd.prog 6 [DV.one (D.sl 1 (List.map Gx.encI v0))] (DV.one (D.s r)) := by
 refine pure_of_walk Tryd.tok Tryd.mixed Tryd.func6 (by kernel_rfl) fun W => ?_
 unfold s_FormatNumbers at h
 refine ab0 ?_
 refine W.r_seq ?_
 refine ab0 ?_
 refine W.r_seq ?_
 refine ab0 ?_
 obtain ⟨zt3, h, gt3⟩ := bnd_some h
 refine W.r_cut (fun (t3 : (List (List UInt8))) => ⟨[(3, .sl 1)], [(1, some (.arr 1 (List.map Gx.encS t3) true))], 1000⟩) (fun t => t = zt3) ?_ ?_
 ·refine avb ?_
  refine loop_lp (fun (p1 : (List (List UInt8)) × Int) => ⟨[(0, .d (D.sl 1 (List.map Gx.encI v0))), (3, .sl 1), (4, .d (D.i p1.2))], [(1, some (.arr 1 (List.map Gx.encS p1.1) true))], 1000⟩) h ?_ ?_
  ·exact weak_by
  intro np1 p1 yp1 h hfp1
  unfold s_FormatNumbers_L1 at h
  refine avb ?_
  refine lns (v0.length : Int) ?_
  refine avb ?_
  refine brb h ?_ ?_<;>intro _ h
  ·refine idx_sel h (fun x1 hx1 h => ?_)
   refine avb ?_
   refine plb ?_;refine call_sel (E := fun (x : (List UInt8)) => DV.one (D.s x)) h (fun x2 h1 => (s_FormatInt_ok N x1 h1)) (fun x2 hx2 h => ?_)
   refine avb ?_
   refine app_sel h (app_ok (by (first|rfl|simp [sub])) (by (first|rfl|simp [sub])) (by decide)) (by (intro h; cases h)) (fun h => ?_)
   refine avb ?_
   exact lbk hfp1 h
  ·have h := finr hfp1 h
   refine cut_at (p1.1) (some_in h) ?_
   exact weak_by
 rintro t3 rfl
 have h : _ = some _ := gt3
 refine avb ?_
 refine plb ?_;refine call_sel (E := fun (x : (List UInt8)) => DV.one (D.s x)) h (fun x4 h1 => (s_l39Join_ok N t3 ([32] : List UInt8) h1)) (fun x4 hx4 h => ?_)
 refine avb ?_
 cases h;exact eq_by

theorem s_FormatHouse_ok (N : Nat) (v0 : Gx.House) {r : (List UInt8)} (h : s_FormatHouse N v0 = some r) : Pure Tryd.prog 15 [DV.agg (Gx.House.enc v0)] (DV.one (D.s r)) := by
 refine pure_of_walk Tryd.tok Tryd.mixed Tryd.func15 (by kernel_rfl) fun W => ?_
 unfold s_FormatHouse at h
 refine avb ?_
 refine lns (v0.mList.length : Int) ?_
 refine avb ?_
 refine lns (v0.mDict.length : Int) ?_
 refine avb ?_
 refine lns (v0.mIssues.length : Int) ?_
 refine avb ?_
 refine lns (v0.mCorrections.length : Int) ?_
 refine avb ?_
 refine lns (v0.mEntries.length : Int) ?_
 refine avb ?_
 refine plb ?_;refine call_sel (E := fun (x : (List UInt8)) => DV.one (D.s x)) h (fun x1 h1 => (s_FormatNumbers_ok N ([v0.mNow, (v0.mList.length : Int), (v0.mDict.length : Int), (v0.mIssues.length : Int), (v0.mCorrections.length : Int), (v0.mEntries.length : Int), v0.mDesk.mVersion]) h1)) (fun x1 hx1 h => ?_)
 refine avb ?_
 cases h;exact eq_by

theorem i_FormatInt_ok (N : Nat) (v0 : Int) {r : (List UInt8)} (h : i_FormatInt N v0 = some r) : Pure Tryd.prog 21 [DV.one (D.i v0)] (DV.one (D.s r)) := by
 refine pure_of_walk Tryd.tok Tryd.mixed Tryd.func21 (by kernel_rfl) fun W => ?_
 unfold i_FormatInt at h
 refine avb ?_
 refine plb ?_;refine call_sel (E := fun (x : (List UInt8)) => DV.one (D.s x)) h (fun x1 h1 => (g_strconv_Itoa_ok N v0 h1)) (fun x1 hx1 h => ?_)
 refine avb ?_
 cases h;exact eq_by

theorem i_orDash_ok (N : Nat) (v0 : List (List UInt8)) (v1 : List UInt8) {r : (List UInt8)} (h : i_orDash N v0 v1 = some r) : Pure Tryd.prog 22 [DV.one (D.sl 1 (List.map Gx.encS v0)), DV.one (D.s v1)] (DV.one (D.s r)) := by
 refine pure_of_walk Tryd.tok Tryd.mixed Tryd.func22 (by kernel_rfl) fun W => ?_
 unfold i_orDash at h
 refine avb ?_
 refine lns (v0.length : Int) ?_
 refine avb ?_
 refine brb h ?_ ?_<;>intro _ h
 ·cases h;exact eq_by
 ·refine plb ?_;refine call_sel (E := fun (x : (List UInt8)) => DV.one (D.s x)) h (fun x1 h1 => (g_strings_Join_ok N v0 v1 h1)) (fun x1 hx1 h => ?_)
  refine avb ?_
  cases h;exact eq_by

theorem i_FormatNumbers_ok (N : Nat) (v0 : List (Int)) {r : (List UInt8)} (h : i_FormatNumbers N v0 = some r) : Pure Tryd.prog 8 [DV.one (D.sl 1 (List.map Gx.encI v0))] (DV.one (D.s r)) := by
 refine pure_of_walk Tryd.tok Tryd.mixed Tryd.func8 (by kernel_rfl) fun W => ?_
 unfold i_FormatNumbers at h
 refine ab0 ?_
 refine W.r_seq ?_
 refine ab0 ?_
 refine W.r_seq ?_
 refine ab0 ?_
 obtain ⟨zt3, h, gt3⟩ := bnd_some h
 refine W.r_cut (fun (t3 : (List (List UInt8))) => ⟨[(3, .sl 1)], [(1, some (.arr 1 (List.map Gx.encS t3) true))], 1000⟩) (fun t => t = zt3) ?_ ?_
 ·refine avb ?_
  refine lns (v0.length : Int) ?_
  refine avb ?_
  refine loop_lp (fun (p1 : (List (List UInt8)) × Int) => ⟨[(3, .sl 1), (6, .d (D.sl 1 (List.map Gx.encI v0))), (7, .d (D.i (v0.length : Int))), (8, .d (D.i p1.2))], [(1, some (.arr 1 (List.map Gx.encS p1.1) true))], 1000⟩) h ?_ ?_
  ·exact weak_by
  intro np1 p1 yp1 h hfp1
  unfold i_FormatNumbers_L1 at h
  refine avb ?_
  refine brb h ?_ ?_<;>intro _ h
  ·refine idx_sel h (fun x1 hx1 h => ?_)
   refine avb ?_
   refine plb ?_;refine call_sel (E := fun (x : (List UInt8)) => DV.one (D.s x)) h (fun x2 h1 => (i_FormatInt_ok N x1 h1)) (fun x2 hx2 h => ?_)
   refine avb ?_
   refine app_sel h (app_ok (by (first|rfl|simp [sub])) (by (first|rfl|simp [sub])) (by decide)) (by (intro h; cases h)) (fun h => ?_)
   refine avb ?_
   exact lbk hfp1 h
  ·have h := finr hfp1 h
   refine cut_at (p1.1) (some_in h) ?_
   exact weak_by
 rintro t3 rfl
 have h : _ = some _ := gt3
 refine avb ?_
 refine plb ?_;refine call_sel (E := fun (x : (List UInt8)) => DV.one (D.s x)) h (fun x4 h1 => (i_orDash_ok N t3 ([32] : List UInt8) h1)) (fun x4 hx4 h => ?_)
 refine avb ?_
 cases h;exact eq_by

theorem i_FormatHouse_ok (N : Nat) (v0 : Gx.House) {r : (List UInt8)} (h : i_FormatHouse N v0 = some r) : Pure Tryd.prog 17 [DV.agg (Gx.House.enc v0)] (DV.one (D.s r)) := by
 refine pure_of_walk Tryd.tok Tryd.mixed Tryd.func17 (by kernel_rfl) fun W => ?_
 unfold i_FormatHouse at h
 refine avb ?_
 refine lns (v0.mList.length : Int) ?_
 refine avb ?_
 refine lns (v0.mDict.length : Int) ?_
 refine avb ?_
 refine lns (v0.mIssues.length : Int) ?_
 refine avb ?_
 refine lns (v0.mCorrections.length : Int) ?_
 refine avb ?_
 refine lns (v0.mEntries.length : Int) ?_
 refine avb ?_
 refine plb ?_;refine call_sel (E := fun (x : (List UInt8)) => DV.one (D.s x)) h (fun x1 h1 => (i_FormatNumbers_ok N ([v0.mNow, (v0.mList.length : Int), (v0.mDict.length : Int), (v0.mIssues.length : Int), (v0.mCorrections.length : Int), (v0.mEntries.length : Int), v0.mDesk.mVersion]) h1)) (fun x1 hx1 h => ?_)
 refine avb ?_
 cases h;exact eq_by

theorem l_eqListed_ok (N : Nat) (v0 : Gx.Listed) (v1 : Gx.Listed) {r : Bool} (h : l_eqListed N v0 v1 = some r) : Pure Tryd.prog 68 [DV.agg (Gx.Listed.enc v0), DV.agg (Gx.Listed.enc v1)] (DV.one (D.b r)) := by
 refine pure_of_walk Tryd.tok Tryd.mixed Tryd.func68 (by kernel_rfl) fun W => ?_
 unfold l_eqListed at h
 refine avb ?_
 refine brb h ?_ ?_<;>intro _ h
 ·cases h;exact eq_by
 ·refine brb h ?_ ?_<;>intro _ h
  ·cases h;exact eq_by
  ·refine brb h ?_ ?_<;>intro _ h
   ·cases h;exact eq_by
   ·refine brb h ?_ ?_<;>intro _ h
    ·cases h;exact eq_by
    ·cases h;exact eq_by

theorem l_eqListedS_ok (N : Nat) (v0 : List (Gx.Listed)) (v1 : List (Gx.Listed)) {r : Bool} (h : l_eqListedS N v0 v1 = some r) : Pure Tryd.prog 41 [DV.one (D.sl 4 (List.map Gx.Listed.enc v0)), DV.one (D.sl 4 (List.map Gx.Listed.enc v1))] (DV.one (D.b r)) := by
 refine pure_of_walk Tryd.tok Tryd.mixed Tryd.func41 (by kernel_rfl) fun W => ?_
 unfold l_eqListedS at h
 refine avb ?_
 refine lns (v0.length : Int) ?_
 refine avb ?_
 refine lns (v1.length : Int) ?_
 refine avb ?_
 refine br_sel h (fun _ h => ?_) (fun _ h => ?_)
 ·refine avb ?_
  cases h;exact eq_by
 ·refine ab0 ?_
  obtain ⟨zt4, h, gt4⟩ := cutb_some h
  refine W.r_cut (fun (t4 : Unit) => ⟨[], [], 1000⟩) (fun t => .nx t = zt4) ?_ ?_
  ·refine avb ?_
   refine loop_lp (fun (p1 : Int) => ⟨[(0, .d (D.sl 4 (List.map Gx.Listed.enc v0))), (1, .d (D.sl 4 (List.map Gx.Listed.enc v1))), (5, .d (D.i p1))], [], 1000⟩) h ?_ ?_
   ·exact weak_by
   intro np1 p1 yp1 h hfp1
   unfold l_eqListedS_L1 at h
   refine avb ?_
   refine lns (v0.length : Int) ?_
   refine avb ?_
   refine brb h ?_ ?_<;>intro _ h
   ·refine idx_sel h (fun x1 hx1 h => ?_)
    refine avb ?_
    refine idx_sel h (fun x2 hx2 h => ?_)
    refine avb ?_
    refine plb ?_;refine call_sel (E := fun (x : Bool) => DV.one (D.b x)) h (fun x3 h1 => (l_eqListed_ok N x1 x2 h1)) (fun x3 hx3 h => ?_)
    refine avb ?_
    refine brb h ?_ ?_<;>intro _ h
    ·have h := finr hfp1 h
     have h := cutr gt4 h
     cases h;exact eq_by
    ·exact lbk hfp1 h
   ·have h := finr hfp1 h
    refine cut_at (()) (some_in h) ?_
    exact weak_by
  rintro t4 rfl
  have h : _ = some _ := gt4
  refine avb ?_
  cases h;exact eq_by

theorem l_eqMeaning_ok (N : Nat) (v0 : Gx.Meaning) (v1 : Gx.Meaning) {r : Bool} (h : l_eqMeaning N v0 v1 = some r) : Pure Tryd.prog 69 [DV.agg (Gx.Meaning.enc v0), DV.agg (Gx.Meaning.enc v1)] (DV.one (D.b r)) := by
 refine pure_of_walk Tryd.tok Tryd.mixed Tryd.func69 (by kernel_rfl) fun W => ?_
 unfold l_eqMeaning at h
 refine avb ?_
 refine brb h ?_ ?_<;>intro _ h
 ·cases h;exact eq_by
 ·refine brb h ?_ ?_<;>intro _ h
  ·cases h;exact eq_by
  ·cases h;exact eq_by

theorem l_eqMeaningS_ok (N : Nat) (v0 : List (Gx.Meaning)) (v1 : List (Gx.Meaning)) {r : Bool} (h : l_eqMeaningS N v0 v1 = some r) : Pure Tryd.prog 42 [DV.one (D.sl 2 (List.map Gx.Meaning.enc v0)), DV.one (D.sl 2 (List.map Gx.Meaning.enc v1))] (DV.one (D.b r)) := by
 refine pure_of_walk Tryd.tok Tryd.mixed Tryd.func42 (by kernel_rfl) fun W => ?_
 unfold l_eqMeaningS at h
 refine avb ?_
 refine lns (v0.length : Int) ?_
 refine avb ?_
 refine lns (v1.length : Int) ?_
 refine avb ?_
 refine br_sel h (fun _ h => ?_) (fun _ h => ?_)
 ·refine avb ?_
  cases h;exact eq_by
 ·refine ab0 ?_
  obtain ⟨zt4, h, gt4⟩ := cutb_some h
  refine W.r_cut (fun (t4 : Unit) => ⟨[], [], 1000⟩) (fun t => .nx t = zt4) ?_ ?_
  ·refine avb ?_
   refine loop_lp (fun (p1 : Int) => ⟨[(0, .d (D.sl 2 (List.map Gx.Meaning.enc v0))), (1, .d (D.sl 2 (List.map Gx.Meaning.enc v1))), (5, .d (D.i p1))], [], 1000⟩) h ?_ ?_
   ·exact weak_by
   intro np1 p1 yp1 h hfp1
   unfold l_eqMeaningS_L1 at h
   refine avb ?_
   refine lns (v0.length : Int) ?_
   refine avb ?_
   refine brb h ?_ ?_<;>intro _ h
   ·refine idx_sel h (fun x1 hx1 h => ?_)
    refine avb ?_
    refine idx_sel h (fun x2 hx2 h => ?_)
    refine avb ?_
    refine plb ?_;refine call_sel (E := fun (x : Bool) => DV.one (D.b x)) h (fun x3 h1 => (l_eqMeaning_ok N x1 x2 h1)) (fun x3 hx3 h => ?_)
    refine avb ?_
    refine brb h ?_ ?_<;>intro _ h
    ·have h := finr hfp1 h
     have h := cutr gt4 h
     cases h;exact eq_by
    ·exact lbk hfp1 h
   ·have h := finr hfp1 h
    refine cut_at (()) (some_in h) ?_
    exact weak_by
  rintro t4 rfl
  have h : _ = some _ := gt4
  refine avb ?_
  cases h;exact eq_by

theorem l_eqGrid_ok (N : Nat) (v0 : Gx.Grid) (v1 : Gx.Grid) {r : Bool} (h : l_eqGrid N v0 v1 = some r) : Pure Tryd.prog 70 [DV.agg (Gx.Grid.enc v0), DV.agg (Gx.Grid.enc v1)] (DV.one (D.b r)) := by
 refine pure_of_walk Tryd.tok Tryd.mixed Tryd.func70 (by kernel_rfl) fun W => ?_
 unfold l_eqGrid at h
 refine avb ?_
 refine brb h ?_ ?_<;>intro _ h
 ·cases h;exact eq_by
 ·refine brb h ?_ ?_<;>intro _ h
  ·cases h;exact eq_by
  ·refine brb h ?_ ?_<;>intro _ h
   ·cases h;exact eq_by
   ·cases h;exact eq_by

theorem l_eqStep_ok (N : Nat) (v0 : Gx.Step) (v1 : Gx.Step) {r : Bool} (h : l_eqStep N v0 v1 = some r) : Pure Tryd.prog 103 [DV.agg (Gx.Step.enc v0), DV.agg (Gx.Step.enc v1)] (DV.one (D.b r)) := by
 refine pure_of_walk Tryd.tok Tryd.mixed Tryd.func103 (by kernel_rfl) fun W => ?_
 unfold l_eqStep at h
 refine avb ?_
 refine brb h ?_ ?_<;>intro _ h
 ·cases h;exact eq_by
 ·refine brb h ?_ ?_<;>intro _ h
  ·cases h;exact eq_by
  ·refine brb h ?_ ?_<;>intro _ h
   ·cases h;exact eq_by
   ·refine brb h ?_ ?_<;>intro _ h
    ·cases h;exact eq_by
    ·cases h;exact eq_by

theorem l_eqStepS_ok (N : Nat) (v0 : List (Gx.Step)) (v1 : List (Gx.Step)) {r : Bool} (h : l_eqStepS N v0 v1 = some r) : Pure Tryd.prog 94 [DV.one (D.sl 4 (List.map Gx.Step.enc v0)), DV.one (D.sl 4 (List.map Gx.Step.enc v1))] (DV.one (D.b r)) := by
 refine pure_of_walk Tryd.tok Tryd.mixed Tryd.func94 (by kernel_rfl) fun W => ?_
 unfold l_eqStepS at h
 refine avb ?_
 refine lns (v0.length : Int) ?_
 refine avb ?_
 refine lns (v1.length : Int) ?_
 refine avb ?_
 refine br_sel h (fun _ h => ?_) (fun _ h => ?_)
 ·refine avb ?_
  cases h;exact eq_by
 ·refine ab0 ?_
  obtain ⟨zt4, h, gt4⟩ := cutb_some h
  refine W.r_cut (fun (t4 : Unit) => ⟨[], [], 1000⟩) (fun t => .nx t = zt4) ?_ ?_
  ·refine avb ?_
   refine loop_lp (fun (p1 : Int) => ⟨[(0, .d (D.sl 4 (List.map Gx.Step.enc v0))), (1, .d (D.sl 4 (List.map Gx.Step.enc v1))), (5, .d (D.i p1))], [], 1000⟩) h ?_ ?_
   ·exact weak_by
   intro np1 p1 yp1 h hfp1
   unfold l_eqStepS_L1 at h
   refine avb ?_
   refine lns (v0.length : Int) ?_
   refine avb ?_
   refine brb h ?_ ?_<;>intro _ h
   ·refine idx_sel h (fun x1 hx1 h => ?_)
    refine avb ?_
    refine idx_sel h (fun x2 hx2 h => ?_)
    refine avb ?_
    refine plb ?_;refine call_sel (E := fun (x : Bool) => DV.one (D.b x)) h (fun x3 h1 => (l_eqStep_ok N x1 x2 h1)) (fun x3 hx3 h => ?_)
    refine avb ?_
    refine brb h ?_ ?_<;>intro _ h
    ·have h := finr hfp1 h
     have h := cutr gt4 h
     cases h;exact eq_by
    ·exact lbk hfp1 h
   ·have h := finr hfp1 h
    refine cut_at (()) (some_in h) ?_
    exact weak_by
  rintro t4 rfl
  have h : _ = some _ := gt4
  refine avb ?_
  cases h;exact eq_by

theorem l_eqClue_ok (N : Nat) (v0 : Gx.Clue) (v1 : Gx.Clue) {r : Bool} (h : l_eqClue N v0 v1 = some r) : Pure Tryd.prog 86 [DV.agg (Gx.Clue.enc v0), DV.agg (Gx.Clue.enc v1)] (DV.one (D.b r)) := by
 refine pure_of_walk Tryd.tok Tryd.mixed Tryd.func86 (by kernel_rfl) fun W => ?_
 unfold l_eqClue at h
 refine avb ?_
 refine brb h ?_ ?_<;>intro _ h
 ·cases h;exact eq_by
 ·refine plb ?_;refine call_sel (E := fun (x : Bool) => DV.one (D.b x)) h (fun x1 h1 => (l_eqStepS_ok N v0.mPlay v1.mPlay h1)) (fun x1 hx1 h => ?_)
  refine avb ?_
  refine brb h ?_ ?_<;>intro _ h
  ·cases h;exact eq_by
  ·cases h;exact eq_by

theorem l_eqClueS_ok (N : Nat) (v0 : List (Gx.Clue)) (v1 : List (Gx.Clue)) {r : Bool} (h : l_eqClueS N v0 v1 = some r) : Pure Tryd.prog 71 [DV.one (D.sl 2 (List.map Gx.Clue.enc v0)), DV.one (D.sl 2 (List.map Gx.Clue.enc v1))] (DV.one (D.b r)) := by
 refine pure_of_walk Tryd.tok Tryd.mixed Tryd.func71 (by kernel_rfl) fun W => ?_
 unfold l_eqClueS at h
 refine avb ?_
 refine lns (v0.length : Int) ?_
 refine avb ?_
 refine lns (v1.length : Int) ?_
 refine avb ?_
 refine br_sel h (fun _ h => ?_) (fun _ h => ?_)
 ·refine avb ?_
  cases h;exact eq_by
 ·refine ab0 ?_
  obtain ⟨zt4, h, gt4⟩ := cutb_some h
  refine W.r_cut (fun (t4 : Unit) => ⟨[], [], 1000⟩) (fun t => .nx t = zt4) ?_ ?_
  ·refine avb ?_
   refine loop_lp (fun (p1 : Int) => ⟨[(0, .d (D.sl 2 (List.map Gx.Clue.enc v0))), (1, .d (D.sl 2 (List.map Gx.Clue.enc v1))), (5, .d (D.i p1))], [], 1000⟩) h ?_ ?_
   ·exact weak_by
   intro np1 p1 yp1 h hfp1
   unfold l_eqClueS_L1 at h
   refine avb ?_
   refine lns (v0.length : Int) ?_
   refine avb ?_
   refine brb h ?_ ?_<;>intro _ h
   ·refine idx_sel h (fun x1 hx1 h => ?_)
    refine avb ?_
    refine idx_sel h (fun x2 hx2 h => ?_)
    refine avb ?_
    refine plb ?_;refine call_sel (E := fun (x : Bool) => DV.one (D.b x)) h (fun x3 h1 => (l_eqClue_ok N x1 x2 h1)) (fun x3 hx3 h => ?_)
    refine avb ?_
    refine brb h ?_ ?_<;>intro _ h
    ·have h := finr hfp1 h
     have h := cutr gt4 h
     cases h;exact eq_by
    ·exact lbk hfp1 h
   ·have h := finr hfp1 h
    refine cut_at (()) (some_in h) ?_
    exact weak_by
  rintro t4 rfl
  have h : _ = some _ := gt4
  refine avb ?_
  cases h;exact eq_by

theorem l_eqDraft_ok (N : Nat) (v0 : Gx.Draft) (v1 : Gx.Draft) {r : Bool} (h : l_eqDraft N v0 v1 = some r) : Pure Tryd.prog 43 [DV.agg (Gx.Draft.enc v0), DV.agg (Gx.Draft.enc v1)] (DV.one (D.b r)) := by
 refine pure_of_walk Tryd.tok Tryd.mixed Tryd.func43 (by kernel_rfl) fun W => ?_
 unfold l_eqDraft at h
 refine avb ?_
 refine plb ?_;refine call_sel (E := fun (x : Bool) => DV.one (D.b x)) h (fun x1 h1 => (l_eqGrid_ok N v0.mGrid v1.mGrid h1)) (fun x1 hx1 h => ?_)
 refine avb ?_
 refine brb h ?_ ?_<;>intro _ h
 ·cases h;exact eq_by
 ·refine brb h ?_ ?_<;>intro _ h
  ·cases h;exact eq_by
  ·refine plb ?_;refine call_sel (E := fun (x : Bool) => DV.one (D.b x)) h (fun x2 h1 => (l_eqClueS_ok N v0.mClues v1.mClues h1)) (fun x2 hx2 h => ?_)
   refine avb ?_
   refine brb h ?_ ?_<;>intro _ h
   ·cases h;exact eq_by
   ·refine brb h ?_ ?_<;>intro _ h
    ·cases h;exact eq_by
    ·cases h;exact eq_by

theorem l_eqIntS_ok (N : Nat) (v0 : List (Int)) (v1 : List (Int)) {r : Bool} (h : l_eqIntS N v0 v1 = some r) : Pure Tryd.prog 9 [DV.one (D.sl 1 (List.map Gx.encI v0)), DV.one (D.sl 1 (List.map Gx.encI v1))] (DV.one (D.b r)) := by
 refine pure_of_walk Tryd.tok Tryd.mixed Tryd.func9 (by kernel_rfl) fun W => ?_
 unfold l_eqIntS at h
 refine avb ?_
 refine lns (v0.length : Int) ?_
 refine avb ?_
 refine lns (v1.length : Int) ?_
 refine avb ?_
 refine br_sel h (fun _ h => ?_) (fun _ h => ?_)
 ·refine avb ?_
  cases h;exact eq_by
 ·refine ab0 ?_
  obtain ⟨zt3, h, gt3⟩ := cutb_some h
  refine W.r_cut (fun (t3 : Unit) => ⟨[], [], 1000⟩) (fun t => .nx t = zt3) ?_ ?_
  ·refine avb ?_
   refine loop_lp (fun (p1 : Int) => ⟨[(0, .d (D.sl 1 (List.map Gx.encI v0))), (1, .d (D.sl 1 (List.map Gx.encI v1))), (5, .d (D.i p1))], [], 1000⟩) h ?_ ?_
   ·exact weak_by
   intro np1 p1 yp1 h hfp1
   unfold l_eqIntS_L1 at h
   refine avb ?_
   refine lns (v0.length : Int) ?_
   refine avb ?_
   refine brb h ?_ ?_<;>intro _ h
   ·refine idx_sel h (fun x1 hx1 h => ?_)
    refine avb ?_
    refine idx_sel h (fun x2 hx2 h => ?_)
    refine avb ?_
    refine brb h ?_ ?_<;>intro _ h
    ·have h := finr hfp1 h
     have h := cutr gt3 h
     cases h;exact eq_by
    ·exact lbk hfp1 h
   ·have h := finr hfp1 h
    refine cut_at (()) (some_in h) ?_
    exact weak_by
  rintro t3 rfl
  have h : _ = some _ := gt3
  refine avb ?_
  cases h;exact eq_by

theorem l_eqPuzzle_ok (N : Nat) (v0 : Gx.Puzzle) (v1 : Gx.Puzzle) {r : Bool} (h : l_eqPuzzle N v0 v1 = some r) : Pure Tryd.prog 87 [DV.agg (Gx.Puzzle.enc v0), DV.agg (Gx.Puzzle.enc v1)] (DV.one (D.b r)) := by
 refine pure_of_walk Tryd.tok Tryd.mixed Tryd.func87 (by kernel_rfl) fun W => ?_
 unfold l_eqPuzzle at h
 refine avb ?_
 refine plb ?_;refine call_sel (E := fun (x : Bool) => DV.one (D.b x)) h (fun x1 h1 => (l_eqGrid_ok N v0.mGrid v1.mGrid h1)) (fun x1 hx1 h => ?_)
 refine avb ?_
 refine brb h ?_ ?_<;>intro _ h
 ·cases h;exact eq_by
 ·refine plb ?_;refine call_sel (E := fun (x : Bool) => DV.one (D.b x)) h (fun x2 h1 => (l_eqClueS_ok N v0.mClues v1.mClues h1)) (fun x2 hx2 h => ?_)
  refine avb ?_
  refine brb h ?_ ?_<;>intro _ h
  ·cases h;exact eq_by
  ·refine plb ?_;refine call_sel (E := fun (x : Bool) => DV.one (D.b x)) h (fun x3 h1 => (l_eqIntS_ok N v0.mSeals v1.mSeals h1)) (fun x3 hx3 h => ?_)
   refine avb ?_
   refine brb h ?_ ?_<;>intro _ h
   ·cases h;exact eq_by
   ·refine brb h ?_ ?_<;>intro _ h
    ·cases h;exact eq_by
    ·cases h;exact eq_by

theorem l_eqIssue_ok (N : Nat) (v0 : Gx.Issue) (v1 : Gx.Issue) {r : Bool} (h : l_eqIssue N v0 v1 = some r) : Pure Tryd.prog 72 [DV.agg (Gx.Issue.enc v0), DV.agg (Gx.Issue.enc v1)] (DV.one (D.b r)) := by
 refine pure_of_walk Tryd.tok Tryd.mixed Tryd.func72 (by kernel_rfl) fun W => ?_
 unfold l_eqIssue at h
 refine avb ?_
 refine brb h ?_ ?_<;>intro _ h
 ·cases h;exact eq_by
 ·refine plb ?_;refine call_sel (E := fun (x : Bool) => DV.one (D.b x)) h (fun x1 h1 => (l_eqPuzzle_ok N v0.mPuzzle v1.mPuzzle h1)) (fun x1 hx1 h => ?_)
  refine avb ?_
  refine brb h ?_ ?_<;>intro _ h
  ·cases h;exact eq_by
  ·refine brb h ?_ ?_<;>intro _ h
   ·cases h;exact eq_by
   ·refine brb h ?_ ?_<;>intro _ h
    ·cases h;exact eq_by
    ·refine brb h ?_ ?_<;>intro _ h
     ·cases h;exact eq_by
     ·cases h;exact eq_by

theorem l_eqIssueS_ok (N : Nat) (v0 : List (Gx.Issue)) (v1 : List (Gx.Issue)) {r : Bool} (h : l_eqIssueS N v0 v1 = some r) : Pure Tryd.prog 44 [DV.one (D.sl 10 (List.map Gx.Issue.enc v0)), DV.one (D.sl 10 (List.map Gx.Issue.enc v1))] (DV.one (D.b r)) := by
 refine pure_of_walk Tryd.tok Tryd.mixed Tryd.func44 (by kernel_rfl) fun W => ?_
 unfold l_eqIssueS at h
 refine avb ?_
 refine lns (v0.length : Int) ?_
 refine avb ?_
 refine lns (v1.length : Int) ?_
 refine avb ?_
 refine br_sel h (fun _ h => ?_) (fun _ h => ?_)
 ·refine avb ?_
  cases h;exact eq_by
 ·refine ab0 ?_
  obtain ⟨zt4, h, gt4⟩ := cutb_some h
  refine W.r_cut (fun (t4 : Unit) => ⟨[], [], 1000⟩) (fun t => .nx t = zt4) ?_ ?_
  ·refine avb ?_
   refine loop_lp (fun (p1 : Int) => ⟨[(0, .d (D.sl 10 (List.map Gx.Issue.enc v0))), (1, .d (D.sl 10 (List.map Gx.Issue.enc v1))), (5, .d (D.i p1))], [], 1000⟩) h ?_ ?_
   ·exact weak_by
   intro np1 p1 yp1 h hfp1
   unfold l_eqIssueS_L1 at h
   refine avb ?_
   refine lns (v0.length : Int) ?_
   refine avb ?_
   refine brb h ?_ ?_<;>intro _ h
   ·refine idx_sel h (fun x1 hx1 h => ?_)
    refine avb ?_
    refine idx_sel h (fun x2 hx2 h => ?_)
    refine avb ?_
    refine plb ?_;refine call_sel (E := fun (x : Bool) => DV.one (D.b x)) h (fun x3 h1 => (l_eqIssue_ok N x1 x2 h1)) (fun x3 hx3 h => ?_)
    refine avb ?_
    refine brb h ?_ ?_<;>intro _ h
    ·have h := finr hfp1 h
     have h := cutr gt4 h
     cases h;exact eq_by
    ·exact lbk hfp1 h
   ·have h := finr hfp1 h
    refine cut_at (()) (some_in h) ?_
    exact weak_by
  rintro t4 rfl
  have h : _ = some _ := gt4
  refine avb ?_
  cases h;exact eq_by

theorem l_eqUsed_ok (N : Nat) (v0 : Gx.Used) (v1 : Gx.Used) {r : Bool} (h : l_eqUsed N v0 v1 = some r) : Pure Tryd.prog 73 [DV.agg (Gx.Used.enc v0), DV.agg (Gx.Used.enc v1)] (DV.one (D.b r)) := by
 refine pure_of_walk Tryd.tok Tryd.mixed Tryd.func73 (by kernel_rfl) fun W => ?_
 unfold l_eqUsed at h
 refine avb ?_
 refine brb h ?_ ?_<;>intro _ h
 ·cases h;exact eq_by
 ·refine brb h ?_ ?_<;>intro _ h
  ·cases h;exact eq_by
  ·cases h;exact eq_by

theorem l_eqUsedS_ok (N : Nat) (v0 : List (Gx.Used)) (v1 : List (Gx.Used)) {r : Bool} (h : l_eqUsedS N v0 v1 = some r) : Pure Tryd.prog 45 [DV.one (D.sl 2 (List.map Gx.Used.enc v0)), DV.one (D.sl 2 (List.map Gx.Used.enc v1))] (DV.one (D.b r)) := by
 refine pure_of_walk Tryd.tok Tryd.mixed Tryd.func45 (by kernel_rfl) fun W => ?_
 unfold l_eqUsedS at h
 refine avb ?_
 refine lns (v0.length : Int) ?_
 refine avb ?_
 refine lns (v1.length : Int) ?_
 refine avb ?_
 refine br_sel h (fun _ h => ?_) (fun _ h => ?_)
 ·refine avb ?_
  cases h;exact eq_by
 ·refine ab0 ?_
  obtain ⟨zt4, h, gt4⟩ := cutb_some h
  refine W.r_cut (fun (t4 : Unit) => ⟨[], [], 1000⟩) (fun t => .nx t = zt4) ?_ ?_
  ·refine avb ?_
   refine loop_lp (fun (p1 : Int) => ⟨[(0, .d (D.sl 2 (List.map Gx.Used.enc v0))), (1, .d (D.sl 2 (List.map Gx.Used.enc v1))), (5, .d (D.i p1))], [], 1000⟩) h ?_ ?_
   ·exact weak_by
   intro np1 p1 yp1 h hfp1
   unfold l_eqUsedS_L1 at h
   refine avb ?_
   refine lns (v0.length : Int) ?_
   refine avb ?_
   refine brb h ?_ ?_<;>intro _ h
   ·refine idx_sel h (fun x1 hx1 h => ?_)
    refine avb ?_
    refine idx_sel h (fun x2 hx2 h => ?_)
    refine avb ?_
    refine plb ?_;refine call_sel (E := fun (x : Bool) => DV.one (D.b x)) h (fun x3 h1 => (l_eqUsed_ok N x1 x2 h1)) (fun x3 hx3 h => ?_)
    refine avb ?_
    refine brb h ?_ ?_<;>intro _ h
    ·have h := finr hfp1 h
     have h := cutr gt4 h
     cases h;exact eq_by
    ·exact lbk hfp1 h
   ·have h := finr hfp1 h
    refine cut_at (()) (some_in h) ?_
    exact weak_by
  rintro t4 rfl
  have h : _ = some _ := gt4
  refine avb ?_
  cases h;exact eq_by

theorem l_eqCorrection_ok (N : Nat) (v0 : Gx.Correction) (v1 : Gx.Correction) {r : Bool} (h : l_eqCorrection N v0 v1 = some r) : Pure Tryd.prog 74 [DV.agg (Gx.Correction.enc v0), DV.agg (Gx.Correction.enc v1)] (DV.one (D.b r)) := by
 refine pure_of_walk Tryd.tok Tryd.mixed Tryd.func74 (by kernel_rfl) fun W => ?_
 unfold l_eqCorrection at h
 refine avb ?_
 refine brb h ?_ ?_<;>intro _ h
 ·cases h;exact eq_by
 ·refine brb h ?_ ?_<;>intro _ h
  ·cases h;exact eq_by
  ·refine plb ?_;refine call_sel (E := fun (x : Bool) => DV.one (D.b x)) h (fun x1 h1 => (l_eqClue_ok N v0.mClue v1.mClue h1)) (fun x1 hx1 h => ?_)
   refine avb ?_
   refine brb h ?_ ?_<;>intro _ h
   ·cases h;exact eq_by
   ·refine brb h ?_ ?_<;>intro _ h
    ·cases h;exact eq_by
    ·cases h;exact eq_by

theorem l_eqCorrectionS_ok (N : Nat) (v0 : List (Gx.Correction)) (v1 : List (Gx.Correction)) {r : Bool} (h : l_eqCorrectionS N v0 v1 = some r) : Pure Tryd.prog 46 [DV.one (D.sl 5 (List.map Gx.Correction.enc v0)), DV.one (D.sl 5 (List.map Gx.Correction.enc v1))] (DV.one (D.b r)) := by
 refine pure_of_walk Tryd.tok Tryd.mixed Tryd.func46 (by kernel_rfl) fun W => ?_
 unfold l_eqCorrectionS at h
 refine avb ?_
 refine lns (v0.length : Int) ?_
 refine avb ?_
 refine lns (v1.length : Int) ?_
 refine avb ?_
 refine br_sel h (fun _ h => ?_) (fun _ h => ?_)
 ·refine avb ?_
  cases h;exact eq_by
 ·refine ab0 ?_
  obtain ⟨zt4, h, gt4⟩ := cutb_some h
  refine W.r_cut (fun (t4 : Unit) => ⟨[], [], 1000⟩) (fun t => .nx t = zt4) ?_ ?_
  ·refine avb ?_
   refine loop_lp (fun (p1 : Int) => ⟨[(0, .d (D.sl 5 (List.map Gx.Correction.enc v0))), (1, .d (D.sl 5 (List.map Gx.Correction.enc v1))), (5, .d (D.i p1))], [], 1000⟩) h ?_ ?_
   ·exact weak_by
   intro np1 p1 yp1 h hfp1
   unfold l_eqCorrectionS_L1 at h
   refine avb ?_
   refine lns (v0.length : Int) ?_
   refine avb ?_
   refine brb h ?_ ?_<;>intro _ h
   ·refine idx_sel h (fun x1 hx1 h => ?_)
    refine avb ?_
    refine idx_sel h (fun x2 hx2 h => ?_)
    refine avb ?_
    refine plb ?_;refine call_sel (E := fun (x : Bool) => DV.one (D.b x)) h (fun x3 h1 => (l_eqCorrection_ok N x1 x2 h1)) (fun x3 hx3 h => ?_)
    refine avb ?_
    refine brb h ?_ ?_<;>intro _ h
    ·have h := finr hfp1 h
     have h := cutr gt4 h
     cases h;exact eq_by
    ·exact lbk hfp1 h
   ·have h := finr hfp1 h
    refine cut_at (()) (some_in h) ?_
    exact weak_by
  rintro t4 rfl
  have h : _ = some _ := gt4
  refine avb ?_
  cases h;exact eq_by

theorem l_eqEntry_ok (N : Nat) (v0 : Gx.Entry) (v1 : Gx.Entry) {r : Bool} (h : l_eqEntry N v0 v1 = some r) : Pure Tryd.prog 75 [DV.agg (Gx.Entry.enc v0), DV.agg (Gx.Entry.enc v1)] (DV.one (D.b r)) := by
 refine pure_of_walk Tryd.tok Tryd.mixed Tryd.func75 (by kernel_rfl) fun W => ?_
 unfold l_eqEntry at h
 refine avb ?_
 refine brb h ?_ ?_<;>intro _ h
 ·cases h;exact eq_by
 ·refine brb h ?_ ?_<;>intro _ h
  ·cases h;exact eq_by
  ·refine brb h ?_ ?_<;>intro _ h
   ·cases h;exact eq_by
   ·refine brb h ?_ ?_<;>intro _ h
    ·cases h;exact eq_by
    ·cases h;exact eq_by

theorem l_eqEntryS_ok (N : Nat) (v0 : List (Gx.Entry)) (v1 : List (Gx.Entry)) {r : Bool} (h : l_eqEntryS N v0 v1 = some r) : Pure Tryd.prog 47 [DV.one (D.sl 4 (List.map Gx.Entry.enc v0)), DV.one (D.sl 4 (List.map Gx.Entry.enc v1))] (DV.one (D.b r)) := by
 refine pure_of_walk Tryd.tok Tryd.mixed Tryd.func47 (by kernel_rfl) fun W => ?_
 unfold l_eqEntryS at h
 refine avb ?_
 refine lns (v0.length : Int) ?_
 refine avb ?_
 refine lns (v1.length : Int) ?_
 refine avb ?_
 refine br_sel h (fun _ h => ?_) (fun _ h => ?_)
 ·refine avb ?_
  cases h;exact eq_by
 ·refine ab0 ?_
  obtain ⟨zt4, h, gt4⟩ := cutb_some h
  refine W.r_cut (fun (t4 : Unit) => ⟨[], [], 1000⟩) (fun t => .nx t = zt4) ?_ ?_
  ·refine avb ?_
   refine loop_lp (fun (p1 : Int) => ⟨[(0, .d (D.sl 4 (List.map Gx.Entry.enc v0))), (1, .d (D.sl 4 (List.map Gx.Entry.enc v1))), (5, .d (D.i p1))], [], 1000⟩) h ?_ ?_
   ·exact weak_by
   intro np1 p1 yp1 h hfp1
   unfold l_eqEntryS_L1 at h
   refine avb ?_
   refine lns (v0.length : Int) ?_
   refine avb ?_
   refine brb h ?_ ?_<;>intro _ h
   ·refine idx_sel h (fun x1 hx1 h => ?_)
    refine avb ?_
    refine idx_sel h (fun x2 hx2 h => ?_)
    refine avb ?_
    refine plb ?_;refine call_sel (E := fun (x : Bool) => DV.one (D.b x)) h (fun x3 h1 => (l_eqEntry_ok N x1 x2 h1)) (fun x3 hx3 h => ?_)
    refine avb ?_
    refine brb h ?_ ?_<;>intro _ h
    ·have h := finr hfp1 h
     have h := cutr gt4 h
     cases h;exact eq_by
    ·exact lbk hfp1 h
   ·have h := finr hfp1 h
    refine cut_at (()) (some_in h) ?_
    exact weak_by
  rintro t4 rfl
  have h : _ = some _ := gt4
  refine avb ?_
  cases h;exact eq_by

theorem l_eqHouse_ok (N : Nat) (v0 : Gx.House) (v1 : Gx.House) {r : Bool} (h : l_eqHouse N v0 v1 = some r) : Pure Tryd.prog 18 [DV.agg (Gx.House.enc v0), DV.agg (Gx.House.enc v1)] (DV.one (D.b r)) := by
 refine pure_of_walk Tryd.tok Tryd.mixed Tryd.func18 (by kernel_rfl) fun W => ?_
 unfold l_eqHouse at h
 refine avb ?_
 refine plb ?_;refine call_sel (E := fun (x : Bool) => DV.one (D.b x)) h (fun x1 h1 => (l_eqListedS_ok N v0.mList v1.mList h1)) (fun x1 hx1 h => ?_)
 refine avb ?_
 refine brb h ?_ ?_<;>intro _ h
 ·cases h;exact eq_by
 ·refine plb ?_;refine call_sel (E := fun (x : Bool) => DV.one (D.b x)) h (fun x2 h1 => (l_eqMeaningS_ok N v0.mDict v1.mDict h1)) (fun x2 hx2 h => ?_)
  refine avb ?_
  refine brb h ?_ ?_<;>intro _ h
  ·cases h;exact eq_by
  ·refine plb ?_;refine call_sel (E := fun (x : Bool) => DV.one (D.b x)) h (fun x3 h1 => (l_eqDraft_ok N v0.mDesk v1.mDesk h1)) (fun x3 hx3 h => ?_)
   refine avb ?_
   refine brb h ?_ ?_<;>intro _ h
   ·cases h;exact eq_by
   ·refine plb ?_;refine call_sel (E := fun (x : Bool) => DV.one (D.b x)) h (fun x4 h1 => (l_eqIssueS_ok N v0.mIssues v1.mIssues h1)) (fun x4 hx4 h => ?_)
    refine avb ?_
    refine brb h ?_ ?_<;>intro _ h
    ·cases h;exact eq_by
    ·refine plb ?_;refine call_sel (E := fun (x : Bool) => DV.one (D.b x)) h (fun x5 h1 => (l_eqUsedS_ok N v0.mUses v1.mUses h1)) (fun x5 hx5 h => ?_)
     refine avb ?_
     refine brb h ?_ ?_<;>intro _ h
     ·cases h;exact eq_by
     ·refine plb ?_;refine call_sel (E := fun (x : Bool) => DV.one (D.b x)) h (fun x6 h1 => (l_eqCorrectionS_ok N v0.mCorrections v1.mCorrections h1)) (fun x6 hx6 h => ?_)
      refine avb ?_
      refine brb h ?_ ?_<;>intro _ h
      ·cases h;exact eq_by
      ·refine plb ?_;refine call_sel (E := fun (x : Bool) => DV.one (D.b x)) h (fun x7 h1 => (l_eqEntryS_ok N v0.mEntries v1.mEntries h1)) (fun x7 hx7 h => ?_)
       refine avb ?_
       refine brb h ?_ ?_<;>intro _ h
       ·cases h;exact eq_by
       ·refine brb h ?_ ?_<;>intro _ h
        ·cases h;exact eq_by
        ·cases h;exact eq_by

theorem l_FnExactFormatHouse_ok (N : Nat) (v0 : Gx.House) {r : Bool} (h : l_FnExactFormatHouse N v0 = some r) : Pure Tryd.prog 5 [DV.agg (Gx.House.enc v0)] (DV.one (D.b r)) := by
 refine pure_of_walk Tryd.tok Tryd.mixed Tryd.func5 (by kernel_rfl) fun W => ?_
 unfold l_FnExactFormatHouse at h
 refine avb ?_
 refine plb ?_;refine call_sel (E := fun (x : Int) => DV.one (D.i x)) h (fun x1 h1 => (l_szHouse_ok N v0 1048576 h1)) (fun x1 hx1 h => ?_)
 refine avb ?_
 refine brb h ?_ ?_<;>intro _ h
 ·cases h;exact eq_by
 ·refine plb ?_;refine call_sel (E := fun (x : Gx.House) => DV.agg (Gx.House.enc x)) h (fun x2 h1 => (l_toHouse_ok N v0 h1)) (fun x2 hx2 h => ?_)
  refine avb ?_
  refine plb ?_;refine call_sel (E := fun (x : (List UInt8)) => DV.one (D.s x)) h (fun x3 h1 => (s_FormatHouse_ok N x2 h1)) (fun x3 hx3 h => ?_)
  refine avb ?_
  refine plb ?_;refine call_sel (E := fun (x : Gx.House) => DV.agg (Gx.House.enc x)) h (fun x4 h1 => (l_toHouse_ok N v0 h1)) (fun x4 hx4 h => ?_)
  refine avb ?_
  refine plb ?_;refine call_sel (E := fun (x : (List UInt8)) => DV.one (D.s x)) h (fun x5 h1 => (i_FormatHouse_ok N x4 h1)) (fun x5 hx5 h => ?_)
  refine avb ?_
  refine brb h ?_ ?_<;>intro _ h
  ·cases h;exact eq_by
  ·refine plb ?_;refine call_sel (E := fun (x : Gx.House) => DV.agg (Gx.House.enc x)) h (fun x6 h1 => (l_toHouse_ok N v0 h1)) (fun x6 hx6 h => ?_)
   refine avb ?_
   refine plb ?_;refine call_sel (E := fun (x : Bool) => DV.one (D.b x)) h (fun x7 h1 => (l_eqHouse_ok N x4 x6 h1)) (fun x7 hx7 h => ?_)
   refine avb ?_
   refine brb h ?_ ?_<;>intro _ h
   ·cases h;exact eq_by
   ·cases h;exact eq_by
end Lw
end Go.Proofs
