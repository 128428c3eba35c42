/- PRINTED BY gen.py (mine): their contracts. -/
import Derived.Test.YtgmppfmemimkkaaGreatAvPfExampleHouse2
namespace Go.Proofs
open Go Go.Av
set_option maxRecDepth 100000
set_option maxHeartbeats 4000000
set_option linter.unusedVariables false
set_option linter.unusedSimpArgs false
namespace Lw
theorem s_l33Rest_ok (N : Nat) (v0 : Gx.House) {r : Bool} (h : s_l33Rest N v0 = some r) : Pure Tryz.prog 114 [DV.agg (Gx.House.enc v0)] (DV.one (D.b r)) := by
 refine pure_of_walk Tryz.tok Tryz.mixed Tryz.func114 (by kernel_rfl) fun W => ?_
 unfold s_l33Rest at h
 refine ab0 ?_
 refine W.r_seq ?_
 refine ab0 ?_
 obtain ⟨zt5, h, gt5⟩ := cutb_some h
 refine W.r_cut (fun (t5 : Unit) => ⟨[(1, .ptr 1 0 0)], [(1, some (.box [.d (D.sl 4 (List.map Gx.Listed.enc v0.mList)), .d (D.sl 2 (List.map Gx.Meaning.enc v0.mDict)), .d (D.i v0.mDesk.mGrid.mRows), .d (D.i v0.mDesk.mGrid.mCols), .d (D.s v0.mDesk.mGrid.mCells), .d (D.s v0.mDesk.mFill), .d (D.sl 2 (List.map Gx.Clue.enc v0.mDesk.mClues)), .d (D.i v0.mDesk.mVersion), .d (D.sl 10 (List.map Gx.Issue.enc v0.mIssues)), .d (D.sl 2 (List.map Gx.Used.enc v0.mUses)), .d (D.sl 5 (List.map Gx.Correction.enc v0.mCorrections)), .d (D.sl 4 (List.map Gx.Entry.enc v0.mEntries)), .d (D.i v0.mNow)]))], 1000⟩) (fun t => .nx t = zt5) ?_ ?_
 ·refine avb ?_
  refine loop_lp (fun (p1 : Int) => ⟨[(1, .ptr 1 0 0), (3, .d (D.i p1))], [(1, some (.box [.d (D.sl 4 (List.map Gx.Listed.enc v0.mList)), .d (D.sl 2 (List.map Gx.Meaning.enc v0.mDict)), .d (D.i v0.mDesk.mGrid.mRows), .d (D.i v0.mDesk.mGrid.mCols), .d (D.s v0.mDesk.mGrid.mCells), .d (D.s v0.mDesk.mFill), .d (D.sl 2 (List.map Gx.Clue.enc v0.mDesk.mClues)), .d (D.i v0.mDesk.mVersion), .d (D.sl 10 (List.map Gx.Issue.enc v0.mIssues)), .d (D.sl 2 (List.map Gx.Used.enc v0.mUses)), .d (D.sl 5 (List.map Gx.Correction.enc v0.mCorrections)), .d (D.sl 4 (List.map Gx.Entry.enc v0.mEntries)), .d (D.i v0.mNow)]))], 1000⟩) h ?_ ?_
  ·exact weak_by
  intro np1 p1 yp1 h hfp1
  unfold s_l33Rest_L1 at h
  refine avb ?_
  refine lns (v0.mCorrections.length : Int) ?_
  refine avb ?_
  refine brb h ?_ ?_<;>intro _ h
  ·refine idx_sel h (fun x1 hx1 h => ?_)
   refine avb ?_
   refine plb ?_;refine call_sel (E := fun (x : Gx.Issue × Bool) => DV.tup [DV.agg (Gx.Issue.enc x.1), DV.one (D.b x.2)]) h (fun x2 h1 => (s_IssueOf_ok N v0 x1.mIssue h1)) (fun x2 hx2 h => ?_)
   refine avb ?_
   refine brb h ?_ ?_<;>intro _ h
   ·have h := finr hfp1 h
    have h := cutr gt5 h
    cases h;exact eq_by
   ·refine idx_sel h (fun x3 hx3 h => ?_)
    refine avb ?_
    refine lns (x2.1.mPuzzle.mClues.length : Int) ?_
    refine avb ?_
    refine brb h ?_ ?_<;>intro _ h
    ·have h := finr hfp1 h
     have h := cutr gt5 h
     cases h;exact eq_by
    ·refine idx_sel h (fun x4 hx4 h => ?_)
     refine avb ?_
     refine brb h ?_ ?_<;>intro _ h
     ·have h := finr hfp1 h
      have h := cutr gt5 h
      cases h;exact eq_by
     ·exact lbk hfp1 h
  ·have h := finr hfp1 h
   refine cut_at (()) (some_in h) ?_
   exact weak_by
 rintro t5 rfl
 have h : _ = some _ := gt5
 refine ab0 ?_
 obtain ⟨zt11, h, gt11⟩ := cutb_some h
 refine W.r_cut (fun (t11 : Unit) => ⟨[(1, .ptr 1 0 0)], [(1, some (.box [.d (D.sl 4 (List.map Gx.Listed.enc v0.mList)), .d (D.sl 2 (List.map Gx.Meaning.enc v0.mDict)), .d (D.i v0.mDesk.mGrid.mRows), .d (D.i v0.mDesk.mGrid.mCols), .d (D.s v0.mDesk.mGrid.mCells), .d (D.s v0.mDesk.mFill), .d (D.sl 2 (List.map Gx.Clue.enc v0.mDesk.mClues)), .d (D.i v0.mDesk.mVersion), .d (D.sl 10 (List.map Gx.Issue.enc v0.mIssues)), .d (D.sl 2 (List.map Gx.Used.enc v0.mUses)), .d (D.sl 5 (List.map Gx.Correction.enc v0.mCorrections)), .d (D.sl 4 (List.map Gx.Entry.enc v0.mEntries)), .d (D.i v0.mNow)]))], 1000⟩) (fun t => .nx t = zt11) ?_ ?_
 ·refine avb ?_
  refine loop_lp (fun (p2 : Int) => ⟨[(1, .ptr 1 0 0), (6, .d (D.i p2))], [(1, some (.box [.d (D.sl 4 (List.map Gx.Listed.enc v0.mList)), .d (D.sl 2 (List.map Gx.Meaning.enc v0.mDict)), .d (D.i v0.mDesk.mGrid.mRows), .d (D.i v0.mDesk.mGrid.mCols), .d (D.s v0.mDesk.mGrid.mCells), .d (D.s v0.mDesk.mFill), .d (D.sl 2 (List.map Gx.Clue.enc v0.mDesk.mClues)), .d (D.i v0.mDesk.mVersion), .d (D.sl 10 (List.map Gx.Issue.enc v0.mIssues)), .d (D.sl 2 (List.map Gx.Used.enc v0.mUses)), .d (D.sl 5 (List.map Gx.Correction.enc v0.mCorrections)), .d (D.sl 4 (List.map Gx.Entry.enc v0.mEntries)), .d (D.i v0.mNow)]))], 1000⟩) h ?_ ?_
  ·exact weak_by
  intro np2 p2 yp2 h hfp2
  unfold s_l33Rest_L2 at h
  refine avb ?_
  refine lns (v0.mEntries.length : Int) ?_
  refine avb ?_
  refine brb h ?_ ?_<;>intro _ h
  ·refine idx_sel h (fun x6 hx6 h => ?_)
   refine avb ?_
   refine plb ?_;refine call_sel (E := fun (x : Gx.Issue × Bool) => DV.tup [DV.agg (Gx.Issue.enc x.1), DV.one (D.b x.2)]) h (fun x7 h1 => (s_IssueOf_ok N v0 x6.mIssue h1)) (fun x7 hx7 h => ?_)
   refine avb ?_
   refine brb h ?_ ?_<;>intro _ h
   ·have h := finr hfp2 h
    have h := cutr gt11 h
    cases h;exact eq_by
   ·refine idx_sel h (fun x8 hx8 h => ?_)
    refine avb ?_
    refine plb ?_;refine call_sel (E := fun (x : Bool) => DV.one (D.b x)) h (fun x9 h1 => (s_IsEntry_ok N x8 x7.1 h1)) (fun x9 hx9 h => ?_)
    refine avb ?_
    refine brb h ?_ ?_<;>intro _ h
    ·have h := finr hfp2 h
     have h := cutr gt11 h
     cases h;exact eq_by
    ·refine idx_sel h (fun x10 hx10 h => ?_)
     refine avb ?_
     refine brb h ?_ ?_<;>intro _ h
     ·have h := finr hfp2 h
      have h := cutr gt11 h
      cases h;exact eq_by
     ·exact lbk hfp2 h
  ·have h := finr hfp2 h
   refine cut_at (()) (some_in h) ?_
   exact weak_by
 rintro t11 rfl
 have h : _ = some _ := gt11
 refine avb ?_
 refine plb ?_;refine call_sel (E := fun (x : Bool) => DV.one (D.b x)) h (fun x12 h1 => (s_AreUses_ok N v0.mUses h1)) (fun x12 hx12 h => ?_)
 refine avb ?_
 refine brb h ?_ ?_<;>intro _ h
 ·refine plb ?_;refine call_sel (E := fun (x : Bool) => DV.one (D.b x)) h (fun x13 h1 => (s_AreCorrections_ok N v0.mCorrections h1)) (fun x13 hx13 h => ?_)
  refine avb ?_
  refine brb h ?_ ?_<;>intro _ h
  ·refine lns (v0.mEntries.length : Int) ?_
   refine avb ?_
   cases h;exact eq_by
  ·cases h;exact eq_by
 ·cases h;exact eq_by

theorem s_l27Zero_ok (N : Nat) (v0 : Gx.Clue) {r : Bool} (h : s_l27Zero N v0 = some r) : Pure Tryz.prog 133 [DV.agg (Gx.Clue.enc v0)] (DV.one (D.b r)) := by
 refine pure_of_walk Tryz.tok Tryz.mixed Tryz.func133 (by kernel_rfl) fun W => ?_
 unfold s_l27Zero at h
 refine avb ?_
 refine brb h ?_ ?_<;>intro _ h
 ·refine lns (v0.mPlay.length : Int) ?_
  refine avb ?_
  cases h;exact eq_by
 ·cases h;exact eq_by

theorem s_IsDraft_ok (N : Nat) (v0 : Gx.Draft) {r : Bool} (h : s_IsDraft N v0 = some r) : Pure Tryz.prog 86 [DV.agg (Gx.Draft.enc v0)] (DV.one (D.b r)) := by
 refine pure_of_walk Tryz.tok Tryz.mixed Tryz.func86 (by kernel_rfl) fun W => ?_
 unfold s_IsDraft at h
 refine ab0 ?_
 refine W.r_seq ?_
 refine ab0 ?_
 obtain ⟨zt5, h, gt5⟩ := cutb_some h
 refine W.r_cut (fun (t5 : Unit) => ⟨[(1, .ptr 1 0 0)], [(1, some (.box [.d (D.i v0.mGrid.mRows), .d (D.i v0.mGrid.mCols), .d (D.s v0.mGrid.mCells), .d (D.s v0.mFill), .d (D.sl 2 (List.map Gx.Clue.enc v0.mClues)), .d (D.i v0.mVersion)]))], 1000⟩) (fun t => .nx t = zt5) ?_ ?_
 ·refine avb ?_
  refine loop_lp (fun (p1 : Int) => ⟨[(1, .ptr 1 0 0), (3, .d (D.i p1))], [(1, some (.box [.d (D.i v0.mGrid.mRows), .d (D.i v0.mGrid.mCols), .d (D.s v0.mGrid.mCells), .d (D.s v0.mFill), .d (D.sl 2 (List.map Gx.Clue.enc v0.mClues)), .d (D.i v0.mVersion)]))], 1000⟩) h ?_ ?_
  ·exact weak_by
  intro np1 p1 yp1 h hfp1
  unfold s_IsDraft_L1 at h
  refine avb ?_
  refine lns (v0.mClues.length : Int) ?_
  refine avb ?_
  refine brb h ?_ ?_<;>intro _ h
  ·refine idx_sel h (fun x1 hx1 h => ?_)
   refine avb ?_
   refine plb ?_;refine call_sel (E := fun (x : Bool) => DV.one (D.b x)) h (fun x2 h1 => (s_l27Zero_ok N x1 h1)) (fun x2 hx2 h => ?_)
   refine avb ?_
   refine brb h ?_ ?_<;>intro _ h
   ·refine idx_sel h (fun x3 hx3 h => ?_)
    refine avb ?_
    refine plb ?_;refine call_sel (E := fun (x : Bool) => DV.one (D.b x)) h (fun x4 h1 => (s_IsClue_ok N x3 h1)) (fun x4 hx4 h => ?_)
    refine avb ?_
    refine brb h ?_ ?_<;>intro _ h
    ·have h := finr hfp1 h
     have h := cutr gt5 h
     cases h;exact eq_by
    ·exact lbk hfp1 h
   ·exact lbk hfp1 h
  ·have h := finr hfp1 h
   refine cut_at (()) (some_in h) ?_
   exact weak_by
 rintro t5 rfl
 have h : _ = some _ := gt5
 refine avb ?_
 refine plb ?_;refine call_sel (E := fun (x : Int) => DV.one (D.i x)) h (fun x6 h1 => (s_FormOf_ok N v0.mGrid h1)) (fun x6 hx6 h => ?_)
 refine avb ?_
 refine brb h ?_ ?_<;>intro _ h
 ·refine plb ?_;refine call_sel (E := fun (x : Bool) => DV.one (D.b x)) h (fun x7 h1 => (s_IsFill_ok N v0.mGrid v0.mFill h1)) (fun x7 hx7 h => ?_)
  refine avb ?_
  refine brb h ?_ ?_<;>intro _ h
  ·refine lns (v0.mClues.length : Int) ?_
   refine avb ?_
   refine plb ?_;refine call_sel (E := fun (x : (List (Gx.Slot))) => DV.one (D.sl 4 (List.map Gx.Slot.enc x))) h (fun x8 h1 => (s_SlotsOf_ok N v0.mGrid h1)) (fun x8 hx8 h => ?_)
   refine avb ?_
   refine lns (x8.length : Int) ?_
   refine avb ?_
   refine brb h ?_ ?_<;>intro _ h
   ·refine plb ?_;refine call_sel (E := fun (x : Bool) => DV.one (D.b x)) h (fun x9 h1 => (s_l1In_ok N v0.mVersion 1 9999 h1)) (fun x9 hx9 h => ?_)
    refine avb ?_
    cases h;exact eq_by
   ·cases h;exact eq_by
  ·cases h;exact eq_by
 ·cases h;exact eq_by

theorem s_IsHouse_ok (N : Nat) (v0 : Gx.House) {r : Bool} (h : s_IsHouse N v0 = some r) : Pure Tryz.prog 57 [DV.agg (Gx.House.enc v0)] (DV.one (D.b r)) := by
 refine pure_of_walk Tryz.tok Tryz.mixed Tryz.func57 (by kernel_rfl) fun W => ?_
 unfold s_IsHouse at h
 refine ab0 ?_
 refine W.r_seq ?_
 refine ab0 ?_
 obtain ⟨zt4, h, gt4⟩ := cutb_some h
 refine W.r_cut (fun (t4 : Unit) => ⟨[(1, .ptr 1 0 0)], [(1, some (.box [.d (D.sl 4 (List.map Gx.Listed.enc v0.mList)), .d (D.sl 2 (List.map Gx.Meaning.enc v0.mDict)), .d (D.i v0.mDesk.mGrid.mRows), .d (D.i v0.mDesk.mGrid.mCols), .d (D.s v0.mDesk.mGrid.mCells), .d (D.s v0.mDesk.mFill), .d (D.sl 2 (List.map Gx.Clue.enc v0.mDesk.mClues)), .d (D.i v0.mDesk.mVersion), .d (D.sl 10 (List.map Gx.Issue.enc v0.mIssues)), .d (D.sl 2 (List.map Gx.Used.enc v0.mUses)), .d (D.sl 5 (List.map Gx.Correction.enc v0.mCorrections)), .d (D.sl 4 (List.map Gx.Entry.enc v0.mEntries)), .d (D.i v0.mNow)]))], 1000⟩) (fun t => .nx t = zt4) ?_ ?_
 ·refine avb ?_
  refine loop_lp (fun (p1 : Int) => ⟨[(1, .ptr 1 0 0), (3, .d (D.i p1))], [(1, some (.box [.d (D.sl 4 (List.map Gx.Listed.enc v0.mList)), .d (D.sl 2 (List.map Gx.Meaning.enc v0.mDict)), .d (D.i v0.mDesk.mGrid.mRows), .d (D.i v0.mDesk.mGrid.mCols), .d (D.s v0.mDesk.mGrid.mCells), .d (D.s v0.mDesk.mFill), .d (D.sl 2 (List.map Gx.Clue.enc v0.mDesk.mClues)), .d (D.i v0.mDesk.mVersion), .d (D.sl 10 (List.map Gx.Issue.enc v0.mIssues)), .d (D.sl 2 (List.map Gx.Used.enc v0.mUses)), .d (D.sl 5 (List.map Gx.Correction.enc v0.mCorrections)), .d (D.sl 4 (List.map Gx.Entry.enc v0.mEntries)), .d (D.i v0.mNow)]))], 1000⟩) h ?_ ?_
  ·exact weak_by
  intro np1 p1 yp1 h hfp1
  unfold s_IsHouse_L1 at h
  refine avb ?_
  refine lns (v0.mIssues.length : Int) ?_
  refine avb ?_
  refine brb h ?_ ?_<;>intro _ h
  ·refine idx_sel h (fun x1 hx1 h => ?_)
   refine avb ?_
   refine plb ?_;refine call_sel (E := fun (x : Bool) => DV.one (D.b x)) h (fun x2 h1 => (s_IsIssue_ok N x1 h1)) (fun x2 hx2 h => ?_)
   refine avb ?_
   refine brb h ?_ ?_<;>intro _ h
   ·have h := finr hfp1 h
    have h := cutr gt4 h
    cases h;exact eq_by
   ·refine idx_sel h (fun x3 hx3 h => ?_)
    refine avb ?_
    refine brb h ?_ ?_<;>intro _ h
    ·have h := finr hfp1 h
     have h := cutr gt4 h
     cases h;exact eq_by
    ·exact lbk hfp1 h
  ·have h := finr hfp1 h
   refine cut_at (()) (some_in h) ?_
   exact weak_by
 rintro t4 rfl
 have h : _ = some _ := gt4
 refine avb ?_
 refine plb ?_;refine call_sel (E := fun (x : Bool) => DV.one (D.b x)) h (fun x5 h1 => (s_IsList_ok N v0.mList h1)) (fun x5 hx5 h => ?_)
 refine avb ?_
 refine brb h ?_ ?_<;>intro _ h
 ·refine plb ?_;refine call_sel (E := fun (x : Bool) => DV.one (D.b x)) h (fun x6 h1 => (s_IsDictionary_ok N v0.mDict h1)) (fun x6 hx6 h => ?_)
  refine avb ?_
  refine brb h ?_ ?_<;>intro _ h
  ·refine plb ?_;refine call_sel (E := fun (x : Bool) => DV.one (D.b x)) h (fun x7 h1 => (s_l33Zero_ok N v0.mDesk h1)) (fun x7 hx7 h => ?_)
   refine avb ?_
   refine brb h ?_ ?_<;>intro _ h
   ·refine lns (v0.mIssues.length : Int) ?_
    refine avb ?_
    refine brb h ?_ ?_<;>intro _ h
    ·refine plb ?_;refine call_sel (E := fun (x : Bool) => DV.one (D.b x)) h (fun x8 h1 => (s_l33Rest_ok N v0 h1)) (fun x8 hx8 h => ?_)
     refine avb ?_
     refine brb h ?_ ?_<;>intro _ h
     ·refine plb ?_;refine call_sel (E := fun (x : Bool) => DV.one (D.b x)) h (fun x9 h1 => (s_l1In_ok N v0.mNow 0 1000 h1)) (fun x9 hx9 h => ?_)
      refine avb ?_
      cases h;exact eq_by
     ·cases h;exact eq_by
    ·cases h;exact eq_by
   ·refine plb ?_;refine call_sel (E := fun (x : Bool) => DV.one (D.b x)) h (fun x10 h1 => (s_IsDraft_ok N v0.mDesk h1)) (fun x10 hx10 h => ?_)
    refine avb ?_
    refine brb h ?_ ?_<;>intro _ h
    ·refine lns (v0.mIssues.length : Int) ?_
     refine avb ?_
     refine brb h ?_ ?_<;>intro _ h
     ·refine plb ?_;refine call_sel (E := fun (x : Bool) => DV.one (D.b x)) h (fun x11 h1 => (s_l33Rest_ok N v0 h1)) (fun x11 hx11 h => ?_)
      refine avb ?_
      refine brb h ?_ ?_<;>intro _ h
      ·refine plb ?_;refine call_sel (E := fun (x : Bool) => DV.one (D.b x)) h (fun x12 h1 => (s_l1In_ok N v0.mNow 0 1000 h1)) (fun x12 hx12 h => ?_)
       refine avb ?_
       cases h;exact eq_by
      ·cases h;exact eq_by
     ·cases h;exact eq_by
    ·cases h;exact eq_by
  ·cases h;exact eq_by
 ·cases h;exact eq_by

theorem s_NewHouse_ok (N : Nat) (v0 : List (Gx.Listed)) (v1 : List (Gx.Meaning)) {r : Gx.House × Bool} (h : s_NewHouse N v0 v1 = some r) : Pure Tryz.prog 15 [DV.one (D.sl 4 (List.map Gx.Listed.enc v0)), DV.one (D.sl 2 (List.map Gx.Meaning.enc v1))] (DV.tup [DV.agg (Gx.House.enc r.1), DV.one (D.b r.2)]) := by
 refine pure_of_walk Tryz.tok Tryz.mixed Tryz.func15 (by kernel_rfl) fun W => ?_
 unfold s_NewHouse at h
 refine avb ?_
 refine plb ?_;refine call_sel (E := fun (x : Gx.House) => DV.agg (Gx.House.enc x)) h (fun x1 h1 => (s_l33Copy_ok N (⟨v0, v1, (⟨(⟨0, 0, ([] : List UInt8)⟩ : Gx.Grid), ([] : List UInt8), [], 0⟩ : Gx.Draft), [], [], [], [], 0⟩ : Gx.House) h1)) (fun x1 hx1 h => ?_)
 refine avb ?_
 refine plb ?_;refine call_sel (E := fun (x : Bool) => DV.one (D.b x)) h (fun x2 h1 => (s_IsHouse_ok N x1 h1)) (fun x2 hx2 h => ?_)
 refine avb ?_
 refine brb h ?_ ?_<;>intro _ h
 ·cases h;exact eq_by
 ·cases h;exact eq_by

theorem s_ExampleHouse_ok (N : Nat) {r : Gx.House × Bool} (h : s_ExampleHouse N = some r) : Pure Tryz.prog 5 [] (DV.tup [DV.agg (Gx.House.enc r.1), DV.one (D.b r.2)]) := by
 refine pure_of_walk Tryz.tok Tryz.mixed Tryz.func5 (by kernel_rfl) fun W => ?_
 unfold s_ExampleHouse at h
 refine avb ?_
 refine plb ?_;refine call_sel (E := fun (x : (List (List UInt8))) => DV.one (D.sl 1 (List.map Gx.encS x))) h (fun x1 h1 => (s_ExampleWords_ok N  h1)) (fun x1 hx1 h => ?_)
 refine ab0 ?_
 obtain ⟨zt4, h, gt4⟩ := bnd_some h
 refine W.r_cut (fun (t4 : (List (Gx.Listed)) × (List (Gx.Meaning))) => ⟨[(0, .ptr 1 0 0), (2, .sl 2), (3, .sl 3)], [(1, some (.box [.d (D.sl 4 (List.map Gx.Listed.enc ([]))), .d (D.sl 2 (List.map Gx.Meaning.enc ([]))), .d (D.i 0), .d (D.i 0), .d (D.s ([] : List UInt8)), .d (D.s ([] : List UInt8)), .d (D.sl 2 (List.map Gx.Clue.enc ([]))), .d (D.i 0), .d (D.sl 10 (List.map Gx.Issue.enc ([]))), .d (D.sl 2 (List.map Gx.Used.enc ([]))), .d (D.sl 5 (List.map Gx.Correction.enc ([]))), .d (D.sl 4 (List.map Gx.Entry.enc ([]))), .d (D.i 0)])), (2, some (.arr 4 (List.map Gx.Listed.enc t4.1) true)), (3, some (.arr 2 (List.map Gx.Meaning.enc t4.2) true))], 1000⟩) (fun t => t = zt4) ?_ ?_
 ·refine avb ?_
  refine loop_lp (fun (p1 : (List (Gx.Listed)) × (List (Gx.Meaning)) × Int) => ⟨[(0, .ptr 1 0 0), (2, .sl 2), (3, .sl 3), (4, .sl 4), (5, .d (D.i p1.2.2))], [(1, some (.box [.d (D.sl 4 (List.map Gx.Listed.enc ([]))), .d (D.sl 2 (List.map Gx.Meaning.enc ([]))), .d (D.i 0), .d (D.i 0), .d (D.s ([] : List UInt8)), .d (D.s ([] : List UInt8)), .d (D.sl 2 (List.map Gx.Clue.enc ([]))), .d (D.i 0), .d (D.sl 10 (List.map Gx.Issue.enc ([]))), .d (D.sl 2 (List.map Gx.Used.enc ([]))), .d (D.sl 5 (List.map Gx.Correction.enc ([]))), .d (D.sl 4 (List.map Gx.Entry.enc ([]))), .d (D.i 0)])), (2, some (.arr 4 (List.map Gx.Listed.enc p1.1) true)), (3, some (.arr 2 (List.map Gx.Meaning.enc p1.2.1) true)), (4, some (.arr 1 (List.map Gx.encS x1) true))], 1000⟩) h ?_ ?_
  ·exact weak_by
  intro np1 p1 yp1 h hfp1
  unfold s_ExampleHouse_L1 at h
  refine avb ?_
  refine lns (x1.length : Int) ?_
  refine avb ?_
  refine brb h ?_ ?_<;>intro _ h
  ·refine idxp_sel h (fun x2 hx2 h => ?_)
   refine avb ?_
   refine ldp_sel hx2 ?_
   refine avb ?_
   refine app_sel h (app_ok (by (first|rfl|simp [sub])) (by (first|rfl|simp [sub])) (by decide)) (by (intro h; cases h)) (fun h => ?_)
   refine avb ?_
   refine idxp_sel h (fun x3 hx3 h => ?_)
   refine avb ?_
   refine ldp_sel hx3 ?_
   refine avb ?_
   refine chk_sel h (fun q => q) (fun h => ?_)
   refine avb ?_
   refine app_sel h (app_ok (by (first|rfl|simp [sub])) (by (first|rfl|simp [sub])) (by decide)) (by (intro h; cases h)) (fun h => ?_)
   refine avb ?_
   exact lbk hfp1 h
  ·have h := finr hfp1 h
   refine cut_at ((p1.1, p1.2.1)) (some_in h) ?_
   exact weak_by
 rintro t4 rfl
 have h : _ = some _ := gt4
 refine avb ?_
 refine plb ?_;refine call_sel (E := fun (x : Gx.House × Bool) => DV.tup [DV.agg (Gx.House.enc x.1), DV.one (D.b x.2)]) h (fun x5 h1 => (s_NewHouse_ok N t4.1 t4.2 h1)) (fun x5 hx5 h => ?_)
 refine avb ?_
 cases h;exact eq_by

theorem i_ExampleWords_ok (N : Nat) {r : (List (List UInt8))} (h : i_ExampleWords N = some r) : Pure Tryz.prog 16 [] (DV.one (D.sl 1 (List.map Gx.encS r))) := by
 refine pure_of_walk Tryz.tok Tryz.mixed Tryz.func16 (by kernel_rfl) fun W => ?_
 unfold i_ExampleWords at h
 refine avb ?_
 cases h;exact eq_by

theorem i_copyClue_ok (N : Nat) (v0 : Gx.Clue) {r : Gx.Clue} (h : i_copyClue N v0 = some r) : Pure Tryz.prog 141 [DV.agg (Gx.Clue.enc v0)] (DV.agg (Gx.Clue.enc r)) := by
 refine pure_of_walk Tryz.tok Tryz.mixed Tryz.func141 (by kernel_rfl) fun W => ?_
 unfold i_copyClue at h
 refine avb ?_
 refine plb ?_;refine call_sel (E := fun (x : (List (Gx.Step))) => DV.one (D.sl 4 (List.map Gx.Step.enc x))) h (fun x1 h1 => (g_slices_Clone_Simpl_Step_impl_Step_ok N v0.mPlay h1)) (fun x1 hx1 h => ?_)
 refine avb ?_
 cases h;exact eq_by

theorem i_copyClues_ok (N : Nat) (v0 : List (Gx.Clue)) {r : (List (Gx.Clue))} (h : i_copyClues N v0 = some r) : Pure Tryz.prog 139 [DV.one (D.sl 2 (List.map Gx.Clue.enc v0))] (DV.one (D.sl 2 (List.map Gx.Clue.enc r))) := by
 refine pure_of_walk Tryz.tok Tryz.mixed Tryz.func139 (by kernel_rfl) fun W => ?_
 unfold i_copyClues at h
 refine ab0 ?_
 refine W.r_seq ?_
 refine ab0 ?_
 refine W.r_seq ?_
 refine ab0 ?_
 obtain ⟨zt3, h, gt3⟩ := bnd_some h
 refine W.r_cut (fun (t3 : (List (Gx.Clue))) => ⟨[(3, .sl 1)], [(1, some (.arr 2 (List.map Gx.Clue.enc t3) true))], 1000⟩) (fun t => t = zt3) ?_ ?_
 ·refine avb ?_
  refine lns (v0.length : Int) ?_
  refine avb ?_
  refine loop_lp (fun (p1 : (List (Gx.Clue)) × Int) => ⟨[(3, .sl 1), (6, .d (D.sl 2 (List.map Gx.Clue.enc v0))), (7, .d (D.i (v0.length : Int))), (8, .d (D.i p1.2))], [(1, some (.arr 2 (List.map Gx.Clue.enc p1.1) true))], 1000⟩) h ?_ ?_
  ·exact weak_by
  intro np1 p1 yp1 h hfp1
  unfold i_copyClues_L1 at h
  refine avb ?_
  refine brb h ?_ ?_<;>intro _ h
  ·refine idx_sel h (fun x1 hx1 h => ?_)
   refine avb ?_
   refine plb ?_;refine call_sel (E := fun (x : Gx.Clue) => DV.agg (Gx.Clue.enc x)) h (fun x2 h1 => (i_copyClue_ok N x1 h1)) (fun x2 hx2 h => ?_)
   refine avb ?_
   refine app_sel h (app_ok (by (first|rfl|simp [sub])) (by (first|rfl|simp [sub])) (by decide)) (by (intro h; cases h)) (fun h => ?_)
   refine avb ?_
   exact lbk hfp1 h
  ·have h := finr hfp1 h
   refine cut_at (p1.1) (some_in h) ?_
   exact weak_by
 rintro t3 rfl
 have h : _ = some _ := gt3
 refine avb ?_
 cases h;exact eq_by

theorem i_copyDraft_ok (N : Nat) (v0 : Gx.Draft) {r : Gx.Draft} (h : i_copyDraft N v0 = some r) : Pure Tryz.prog 100 [DV.agg (Gx.Draft.enc v0)] (DV.agg (Gx.Draft.enc r)) := by
 refine pure_of_walk Tryz.tok Tryz.mixed Tryz.func100 (by kernel_rfl) fun W => ?_
 unfold i_copyDraft at h
 refine avb ?_
 refine plb ?_;refine call_sel (E := fun (x : (List (Gx.Clue))) => DV.one (D.sl 2 (List.map Gx.Clue.enc x))) h (fun x1 h1 => (i_copyClues_ok N v0.mClues h1)) (fun x1 hx1 h => ?_)
 refine avb ?_
 cases h;exact eq_by

theorem i_copyPuzzle_ok (N : Nat) (v0 : Gx.Puzzle) {r : Gx.Puzzle} (h : i_copyPuzzle N v0 = some r) : Pure Tryz.prog 140 [DV.agg (Gx.Puzzle.enc v0)] (DV.agg (Gx.Puzzle.enc r)) := by
 refine pure_of_walk Tryz.tok Tryz.mixed Tryz.func140 (by kernel_rfl) fun W => ?_
 unfold i_copyPuzzle at h
 refine avb ?_
 refine plb ?_;refine call_sel (E := fun (x : (List (Gx.Clue))) => DV.one (D.sl 2 (List.map Gx.Clue.enc x))) h (fun x1 h1 => (i_copyClues_ok N v0.mClues h1)) (fun x1 hx1 h => ?_)
 refine avb ?_
 refine plb ?_;refine call_sel (E := fun (x : (List (Int))) => DV.one (D.sl 1 (List.map Gx.encI x))) h (fun x2 h1 => (g_slices_Clone_Sint_int_ok N v0.mSeals h1)) (fun x2 hx2 h => ?_)
 refine avb ?_
 cases h;exact eq_by

theorem i_copyIssue_ok (N : Nat) (v0 : Gx.Issue) {r : Gx.Issue} (h : i_copyIssue N v0 = some r) : Pure Tryz.prog 101 [DV.agg (Gx.Issue.enc v0)] (DV.agg (Gx.Issue.enc r)) := by
 refine pure_of_walk Tryz.tok Tryz.mixed Tryz.func101 (by kernel_rfl) fun W => ?_
 unfold i_copyIssue at h
 refine avb ?_
 refine plb ?_;refine call_sel (E := fun (x : Gx.Puzzle) => DV.agg (Gx.Puzzle.enc x)) h (fun x1 h1 => (i_copyPuzzle_ok N v0.mPuzzle h1)) (fun x1 hx1 h => ?_)
 refine avb ?_
 cases h;exact eq_by

theorem i_copyCorrections_ok (N : Nat) (v0 : List (Gx.Correction)) {r : (List (Gx.Correction))} (h : i_copyCorrections N v0 = some r) : Pure Tryz.prog 103 [DV.one (D.sl 5 (List.map Gx.Correction.enc v0))] (DV.one (D.sl 5 (List.map Gx.Correction.enc r))) := by
 refine pure_of_walk Tryz.tok Tryz.mixed Tryz.func103 (by kernel_rfl) fun W => ?_
 unfold i_copyCorrections at h
 refine ab0 ?_
 refine W.r_seq ?_
 refine ab0 ?_
 refine W.r_seq ?_
 refine ab0 ?_
 obtain ⟨zt3, h, gt3⟩ := bnd_some h
 refine W.r_cut (fun (t3 : (List (Gx.Correction))) => ⟨[(3, .sl 1)], [(1, some (.arr 5 (List.map Gx.Correction.enc t3) true))], 1000⟩) (fun t => t = zt3) ?_ ?_
 ·refine avb ?_
  refine lns (v0.length : Int) ?_
  refine avb ?_
  refine loop_lp (fun (p1 : (List (Gx.Correction)) × Int) => ⟨[(3, .sl 1), (6, .d (D.sl 5 (List.map Gx.Correction.enc v0))), (7, .d (D.i (v0.length : Int))), (8, .d (D.i p1.2))], [(1, some (.arr 5 (List.map Gx.Correction.enc p1.1) true))], 1000⟩) h ?_ ?_
  ·exact weak_by
  intro np1 p1 yp1 h hfp1
  unfold i_copyCorrections_L1 at h
  refine avb ?_
  refine brb h ?_ ?_<;>intro _ h
  ·refine idx_sel h (fun x1 hx1 h => ?_)
   refine avb ?_
   refine plb ?_;refine call_sel (E := fun (x : Gx.Clue) => DV.agg (Gx.Clue.enc x)) h (fun x2 h1 => (i_copyClue_ok N x1.mClue h1)) (fun x2 hx2 h => ?_)
   refine avb ?_
   refine app_sel h (app_ok (by (first|rfl|simp [sub])) (by (first|rfl|simp [sub])) (by decide)) (by (intro h; cases h)) (fun h => ?_)
   refine avb ?_
   exact lbk hfp1 h
  ·have h := finr hfp1 h
   refine cut_at (p1.1) (some_in h) ?_
   exact weak_by
 rintro t3 rfl
 have h : _ = some _ := gt3
 refine avb ?_
 cases h;exact eq_by

theorem i_copyHouse_ok (N : Nat) (v0 : Gx.House) {r : Gx.House} (h : i_copyHouse N v0 = some r) : Pure Tryz.prog 55 [DV.agg (Gx.House.enc v0)] (DV.agg (Gx.House.enc r)) := by
 refine pure_of_walk Tryz.tok Tryz.mixed Tryz.func55 (by kernel_rfl) fun W => ?_
 unfold i_copyHouse at h
 refine avb ?_
 refine plb ?_;refine call_sel (E := fun (x : (List (Gx.Listed))) => DV.one (D.sl 4 (List.map Gx.Listed.enc x))) h (fun x1 h1 => (g_slices_Clone_Simpl_Listed_impl_Listed_ok N v0.mList h1)) (fun x1 hx1 h => ?_)
 refine avb ?_
 refine plb ?_;refine call_sel (E := fun (x : (List (Gx.Meaning))) => DV.one (D.sl 2 (List.map Gx.Meaning.enc x))) h (fun x2 h1 => (g_slices_Clone_Simpl_Meaning_impl_Meaning_ok N v0.mDict h1)) (fun x2 hx2 h => ?_)
 refine avb ?_
 refine plb ?_;refine call_sel (E := fun (x : Gx.Draft) => DV.agg (Gx.Draft.enc x)) h (fun x3 h1 => (i_copyDraft_ok N v0.mDesk h1)) (fun x3 hx3 h => ?_)
 refine ab0 ?_
 refine W.r_seq ?_
 refine ab0 ?_
 obtain ⟨zt6, h, gt6⟩ := bnd_some h
 refine W.r_cut (fun (t6 : (List (Gx.Issue))) => ⟨[(1, .ptr 1 0 0), (2, .ptr 5 0 0), (3, .sl 6)], [(1, some (.box [.sl 2, .sl 3, .d (D.i x3.mGrid.mRows), .d (D.i x3.mGrid.mCols), .d (D.s x3.mGrid.mCells), .d (D.s x3.mFill), .sl 4, .d (D.i x3.mVersion), .d (D.sl 10 (List.map Gx.Issue.enc v0.mIssues)), .d (D.sl 2 (List.map Gx.Used.enc v0.mUses)), .d (D.sl 5 (List.map Gx.Correction.enc v0.mCorrections)), .d (D.sl 4 (List.map Gx.Entry.enc v0.mEntries)), .d (D.i v0.mNow)])), (2, some (.arr 4 (List.map Gx.Listed.enc x1) true)), (3, some (.arr 2 (List.map Gx.Meaning.enc x2) true)), (4, some (.arr 2 (List.map Gx.Clue.enc x3.mClues) true)), (5, some (.box [.d (D.sl 4 (List.map Gx.Listed.enc ([]))), .d (D.sl 2 (List.map Gx.Meaning.enc ([]))), .d (D.i 0), .d (D.i 0), .d (D.s ([] : List UInt8)), .d (D.s ([] : List UInt8)), .d (D.sl 2 (List.map Gx.Clue.enc ([]))), .d (D.i 0), .d (D.sl 10 (List.map Gx.Issue.enc ([]))), .d (D.sl 2 (List.map Gx.Used.enc ([]))), .d (D.sl 5 (List.map Gx.Correction.enc ([]))), .d (D.sl 4 (List.map Gx.Entry.enc ([]))), .d (D.i 0)])), (6, some (.arr 10 (List.map Gx.Issue.enc t6) true))], 1000⟩) (fun t => t = zt6) ?_ ?_
 ·refine avb ?_
  refine lns (v0.mIssues.length : Int) ?_
  refine avb ?_
  refine loop_lp (fun (p1 : (List (Gx.Issue)) × Int) => ⟨[(1, .ptr 1 0 0), (2, .ptr 5 0 0), (3, .sl 6), (19, .d (D.sl 10 (List.map Gx.Issue.enc v0.mIssues))), (20, .d (D.i (v0.mIssues.length : Int))), (21, .d (D.i p1.2))], [(1, some (.box [.sl 2, .sl 3, .d (D.i x3.mGrid.mRows), .d (D.i x3.mGrid.mCols), .d (D.s x3.mGrid.mCells), .d (D.s x3.mFill), .sl 4, .d (D.i x3.mVersion), .d (D.sl 10 (List.map Gx.Issue.enc v0.mIssues)), .d (D.sl 2 (List.map Gx.Used.enc v0.mUses)), .d (D.sl 5 (List.map Gx.Correction.enc v0.mCorrections)), .d (D.sl 4 (List.map Gx.Entry.enc v0.mEntries)), .d (D.i v0.mNow)])), (2, some (.arr 4 (List.map Gx.Listed.enc x1) true)), (3, some (.arr 2 (List.map Gx.Meaning.enc x2) true)), (4, some (.arr 2 (List.map Gx.Clue.enc x3.mClues) true)), (5, some (.box [.d (D.sl 4 (List.map Gx.Listed.enc ([]))), .d (D.sl 2 (List.map Gx.Meaning.enc ([]))), .d (D.i 0), .d (D.i 0), .d (D.s ([] : List UInt8)), .d (D.s ([] : List UInt8)), .d (D.sl 2 (List.map Gx.Clue.enc ([]))), .d (D.i 0), .d (D.sl 10 (List.map Gx.Issue.enc ([]))), .d (D.sl 2 (List.map Gx.Used.enc ([]))), .d (D.sl 5 (List.map Gx.Correction.enc ([]))), .d (D.sl 4 (List.map Gx.Entry.enc ([]))), .d (D.i 0)])), (6, some (.arr 10 (List.map Gx.Issue.enc p1.1) true))], 1000⟩) h ?_ ?_
  ·exact weak_by
  intro np1 p1 yp1 h hfp1
  unfold i_copyHouse_L1 at h
  refine avb ?_
  refine brb h ?_ ?_<;>intro _ h
  ·refine idx_sel h (fun x4 hx4 h => ?_)
   refine avb ?_
   refine plb ?_;refine call_sel (E := fun (x : Gx.Issue) => DV.agg (Gx.Issue.enc x)) h (fun x5 h1 => (i_copyIssue_ok N x4 h1)) (fun x5 hx5 h => ?_)
   refine avb ?_
   refine app_sel h (app_ok (by (first|rfl|simp [sub])) (by (first|rfl|simp [sub])) (by decide)) (by (intro h; cases h)) (fun h => ?_)
   refine avb ?_
   exact lbk hfp1 h
  ·have h := finr hfp1 h
   refine cut_at (p1.1) (some_in h) ?_
   exact weak_by
 rintro t6 rfl
 have h : _ = some _ := gt6
 refine avb ?_
 refine plb ?_;refine call_sel (E := fun (x : (List (Gx.Used))) => DV.one (D.sl 2 (List.map Gx.Used.enc x))) h (fun x7 h1 => (g_slices_Clone_Simpl_Used_impl_Used_ok N v0.mUses h1)) (fun x7 hx7 h => ?_)
 refine avb ?_
 refine plb ?_;refine call_sel (E := fun (x : (List (Gx.Correction))) => DV.one (D.sl 5 (List.map Gx.Correction.enc x))) h (fun x8 h1 => (i_copyCorrections_ok N v0.mCorrections h1)) (fun x8 hx8 h => ?_)
 refine avb ?_
 refine plb ?_;refine call_sel (E := fun (x : (List (Gx.Entry))) => DV.one (D.sl 4 (List.map Gx.Entry.enc x))) h (fun x9 h1 => (g_slices_Clone_Simpl_Entry_impl_Entry_ok N v0.mEntries h1)) (fun x9 hx9 h => ?_)
 refine avb ?_
 cases h;exact eq_by

theorem i_BeforeWord_ok (N : Nat) (v0 : List UInt8) (v1 : List UInt8) {r : Bool} (h : i_BeforeWord N v0 v1 = some r) : Pure Tryz.prog 158 [DV.one (D.s v0), DV.one (D.s v1)] (DV.one (D.b r)) := by
 refine pure_of_walk Tryz.tok Tryz.mixed Tryz.func158 (by kernel_rfl) fun W => ?_
 unfold i_BeforeWord at h
 refine avb ?_
 refine lns (v0.length : Int) ?_
 refine avb ?_
 refine lns (v1.length : Int) ?_
 refine avb ?_
 refine brb h ?_ ?_<;>intro _ h
 ·refine lns (v0.length : Int) ?_
  refine avb ?_
  refine lns (v1.length : Int) ?_
  refine avb ?_
  cases h;exact eq_by
 ·cases h;exact eq_by

theorem i_InRange_ok (N : Nat) (v0 : Int) (v1 : Int) (v2 : Int) {r : Bool} (h : i_InRange N v0 v1 v2 = some r) : Pure Tryz.prog 121 [DV.one (D.i v0), DV.one (D.i v1), DV.one (D.i v2)] (DV.one (D.b r)) := by
 refine pure_of_walk Tryz.tok Tryz.mixed Tryz.func121 (by kernel_rfl) fun W => ?_
 unfold i_InRange at h
 refine avb ?_
 refine brb h ?_ ?_<;>intro _ h
 ·cases h;exact eq_by
 ·cases h;exact eq_by

theorem i_isLetter_ok (N : Nat) (v0 : Int) {r : Bool} (h : i_isLetter N v0 = some r) : Pure Tryz.prog 150 [DV.one (D.u8 v0)] (DV.one (D.b r)) := by
 refine pure_of_walk Tryz.tok Tryz.mixed Tryz.func150 (by kernel_rfl) fun W => ?_
 unfold i_isLetter at h
 refine avb ?_
 refine brb h ?_ ?_<;>intro _ h
 ·cases h;exact eq_by
 ·cases h;exact eq_by

theorem i_IsWord_ok (N : Nat) (v0 : List UInt8) {r : Bool} (h : i_IsWord N v0 = some r) : Pure Tryz.prog 108 [DV.one (D.s v0)] (DV.one (D.b r)) := by
 refine pure_of_walk Tryz.tok Tryz.mixed Tryz.func108 (by kernel_rfl) fun W => ?_
 unfold i_IsWord at h
 refine avb ?_
 refine lns (v0.length : Int) ?_
 refine avb ?_
 refine plb ?_;refine call_sel (E := fun (x : Bool) => DV.one (D.b x)) h (fun x1 h1 => (i_InRange_ok N (v0.length : Int) 1 8 h1)) (fun x1 hx1 h => ?_)
 refine avb ?_
 refine br_sel h (fun _ h => ?_) (fun _ h => ?_)
 ·refine avb ?_
  cases h;exact eq_by
 ·refine ab0 ?_
  obtain ⟨zt3, h, gt3⟩ := cutb_some h
  refine W.r_cut (fun (t3 : Unit) => ⟨[], [], 1000⟩) (fun t => .nx t = zt3) ?_ ?_
  ·refine avb ?_
   refine lns (v0.length : Int) ?_
   refine avb ?_
   refine loop_lp (fun (p1 : Int) => ⟨[(0, .d (D.s v0)), (9, .d (D.i (v0.length : Int))), (10, .d (D.i p1))], [], 1000⟩) h ?_ ?_
   ·exact weak_by
   intro np1 p1 yp1 h hfp1
   unfold i_IsWord_L1 at h
   refine avb ?_
   refine brb h ?_ ?_<;>intro _ h
   ·refine chk_sel h (fun q => q) (fun h => ?_)
    refine avb ?_
    refine plb ?_;refine call_sel (E := fun (x : Bool) => DV.one (D.b x)) h (fun x2 h1 => (i_isLetter_ok N (byteI v0 p1) h1)) (fun x2 hx2 h => ?_)
    refine avb ?_
    refine brb h ?_ ?_<;>intro _ h
    ·have h := finr hfp1 h
     have h := cutr gt3 h
     cases h;exact eq_by
    ·exact lbk hfp1 h
   ·have h := finr hfp1 h
    refine cut_at (()) (some_in h) ?_
    exact weak_by
  rintro t3 rfl
  have h : _ = some _ := gt3
  refine avb ?_
  cases h;exact eq_by

theorem i_IsList_ok (N : Nat) (v0 : List (Gx.Listed)) {r : Bool} (h : i_IsList N v0 = some r) : Pure Tryz.prog 115 [DV.one (D.sl 4 (List.map Gx.Listed.enc v0))] (DV.one (D.b r)) := by
 refine pure_of_walk Tryz.tok Tryz.mixed Tryz.func115 (by kernel_rfl) fun W => ?_
 unfold i_IsList at h
 refine avb ?_
 refine lns (v0.length : Int) ?_
 refine avb ?_
 refine br_sel h (fun _ h => ?_) (fun _ h => ?_)
 ·refine avb ?_
  cases h;exact eq_by
 ·refine ab0 ?_
  obtain ⟨zt10, h, gt10⟩ := cutb_some h
  refine W.r_cut (fun (t10 : Unit) => ⟨[], [], 1000⟩) (fun t => .nx t = zt10) ?_ ?_
  ·refine avb ?_
   refine lns (v0.length : Int) ?_
   refine avb ?_
   refine loop_lp (fun (p1 : Int) => ⟨[(0, .d (D.sl 4 (List.map Gx.Listed.enc v0))), (8, .d (D.sl 4 (List.map Gx.Listed.enc v0))), (9, .d (D.i (v0.length : Int))), (10, .d (D.i p1))], [], 1000⟩) h ?_ ?_
   ·exact weak_by
   intro np1 p1 yp1 h hfp1
   unfold i_IsList_L1 at h
   refine avb ?_
   refine brb h ?_ ?_<;>intro _ h
   ·refine idx_sel h (fun x1 hx1 h => ?_)
    refine avb ?_
    refine brb h ?_ ?_<;>intro _ h
    ·refine idx_sel h (fun x2 hx2 h => ?_)
     refine avb ?_
     refine plb ?_;refine call_sel (E := fun (x : Bool) => DV.one (D.b x)) h (fun x3 h1 => (i_BeforeWord_ok N x2.mWord x1.mWord h1)) (fun x3 hx3 h => ?_)
     refine avb ?_
     refine brb h ?_ ?_<;>intro _ h
     ·have h := finr hfp1 h
      have h := cutr gt10 h
      cases h;exact eq_by
     ·refine plb ?_;refine call_sel (E := fun (x : Bool) => DV.one (D.b x)) h (fun x4 h1 => (i_IsWord_ok N x1.mWord h1)) (fun x4 hx4 h => ?_)
      refine avb ?_
      refine brb h ?_ ?_<;>intro _ h
      ·have h := finr hfp1 h
       have h := cutr gt10 h
       cases h;exact eq_by
      ·refine plb ?_;refine call_sel (E := fun (x : Bool) => DV.one (D.b x)) h (fun x5 h1 => (i_InRange_ok N x1.mFrom 0 x1.mUntil h1)) (fun x5 hx5 h => ?_)
       refine avb ?_
       refine brb h ?_ ?_<;>intro _ h
       ·have h := finr hfp1 h
        have h := cutr gt10 h
        cases h;exact eq_by
       ·refine brb h ?_ ?_<;>intro _ h
        ·have h := finr hfp1 h
         have h := cutr gt10 h
         cases h;exact eq_by
        ·refine plb ?_;refine call_sel (E := fun (x : Bool) => DV.one (D.b x)) h (fun x6 h1 => (i_InRange_ok N x1.mScore 0 99 h1)) (fun x6 hx6 h => ?_)
         refine avb ?_
         refine brb h ?_ ?_<;>intro _ h
         ·have h := finr hfp1 h
          have h := cutr gt10 h
          cases h;exact eq_by
         ·exact lbk hfp1 h
    ·refine plb ?_;refine call_sel (E := fun (x : Bool) => DV.one (D.b x)) h (fun x7 h1 => (i_IsWord_ok N x1.mWord h1)) (fun x7 hx7 h => ?_)
     refine avb ?_
     refine brb h ?_ ?_<;>intro _ h
     ·have h := finr hfp1 h
      have h := cutr gt10 h
      cases h;exact eq_by
     ·refine plb ?_;refine call_sel (E := fun (x : Bool) => DV.one (D.b x)) h (fun x8 h1 => (i_InRange_ok N x1.mFrom 0 x1.mUntil h1)) (fun x8 hx8 h => ?_)
      refine avb ?_
      refine brb h ?_ ?_<;>intro _ h
      ·have h := finr hfp1 h
       have h := cutr gt10 h
       cases h;exact eq_by
      ·refine brb h ?_ ?_<;>intro _ h
       ·have h := finr hfp1 h
        have h := cutr gt10 h
        cases h;exact eq_by
       ·refine plb ?_;refine call_sel (E := fun (x : Bool) => DV.one (D.b x)) h (fun x9 h1 => (i_InRange_ok N x1.mScore 0 99 h1)) (fun x9 hx9 h => ?_)
        refine avb ?_
        refine brb h ?_ ?_<;>intro _ h
        ·have h := finr hfp1 h
         have h := cutr gt10 h
         cases h;exact eq_by
        ·exact lbk hfp1 h
   ·have h := finr hfp1 h
    refine cut_at (()) (some_in h) ?_
    exact weak_by
  rintro t10 rfl
  have h : _ = some _ := gt10
  refine avb ?_
  cases h;exact eq_by

theorem i_beforeMeaning_ok (N : Nat) (v0 : Gx.Meaning) (v1 : Gx.Meaning) {r : Bool} (h : i_beforeMeaning N v0 v1 = some r) : Pure Tryz.prog 159 [DV.agg (Gx.Meaning.enc v0), DV.agg (Gx.Meaning.enc v1)] (DV.one (D.b r)) := by
 refine pure_of_walk Tryz.tok Tryz.mixed Tryz.func159 (by kernel_rfl) fun W => ?_
 unfold i_beforeMeaning at h
 refine avb ?_
 refine brb h ?_ ?_<;>intro _ h
 ·refine plb ?_;refine call_sel (E := fun (x : Bool) => DV.one (D.b x)) h (fun x1 h1 => (i_BeforeWord_ok N v0.mWord v1.mWord h1)) (fun x1 hx1 h => ?_)
  refine avb ?_
  cases h;exact eq_by
 ·cases h;exact eq_by

theorem i_IsDictionary_ok (N : Nat) (v0 : List (Gx.Meaning)) {r : Bool} (h : i_IsDictionary N v0 = some r) : Pure Tryz.prog 116 [DV.one (D.sl 2 (List.map Gx.Meaning.enc v0))] (DV.one (D.b r)) := by
 refine pure_of_walk Tryz.tok Tryz.mixed Tryz.func116 (by kernel_rfl) fun W => ?_
 unfold i_IsDictionary at h
 refine avb ?_
 refine lns (v0.length : Int) ?_
 refine avb ?_
 refine br_sel h (fun _ h => ?_) (fun _ h => ?_)
 ·refine avb ?_
  cases h;exact eq_by
 ·refine ab0 ?_
  obtain ⟨zt8, h, gt8⟩ := cutb_some h
  refine W.r_cut (fun (t8 : Unit) => ⟨[], [], 1000⟩) (fun t => .nx t = zt8) ?_ ?_
  ·refine avb ?_
   refine lns (v0.length : Int) ?_
   refine avb ?_
   refine loop_lp (fun (p1 : Int) => ⟨[(0, .d (D.sl 2 (List.map Gx.Meaning.enc v0))), (8, .d (D.sl 2 (List.map Gx.Meaning.enc v0))), (9, .d (D.i (v0.length : Int))), (10, .d (D.i p1))], [], 1000⟩) h ?_ ?_
   ·exact weak_by
   intro np1 p1 yp1 h hfp1
   unfold i_IsDictionary_L1 at h
   refine avb ?_
   refine brb h ?_ ?_<;>intro _ h
   ·refine idx_sel h (fun x1 hx1 h => ?_)
    refine avb ?_
    refine brb h ?_ ?_<;>intro _ h
    ·refine idx_sel h (fun x2 hx2 h => ?_)
     refine avb ?_
     refine plb ?_;refine call_sel (E := fun (x : Bool) => DV.one (D.b x)) h (fun x3 h1 => (i_beforeMeaning_ok N x2 x1 h1)) (fun x3 hx3 h => ?_)
     refine avb ?_
     refine brb h ?_ ?_<;>intro _ h
     ·have h := finr hfp1 h
      have h := cutr gt8 h
      cases h;exact eq_by
     ·refine plb ?_;refine call_sel (E := fun (x : Bool) => DV.one (D.b x)) h (fun x4 h1 => (i_IsWord_ok N x1.mWord h1)) (fun x4 hx4 h => ?_)
      refine avb ?_
      refine brb h ?_ ?_<;>intro _ h
      ·have h := finr hfp1 h
       have h := cutr gt8 h
       cases h;exact eq_by
      ·refine plb ?_;refine call_sel (E := fun (x : Bool) => DV.one (D.b x)) h (fun x5 h1 => (i_InRange_ok N x1.mSense 1 99 h1)) (fun x5 hx5 h => ?_)
       refine avb ?_
       refine brb h ?_ ?_<;>intro _ h
       ·have h := finr hfp1 h
        have h := cutr gt8 h
        cases h;exact eq_by
       ·exact lbk hfp1 h
    ·refine plb ?_;refine call_sel (E := fun (x : Bool) => DV.one (D.b x)) h (fun x6 h1 => (i_IsWord_ok N x1.mWord h1)) (fun x6 hx6 h => ?_)
     refine avb ?_
     refine brb h ?_ ?_<;>intro _ h
     ·have h := finr hfp1 h
      have h := cutr gt8 h
      cases h;exact eq_by
     ·refine plb ?_;refine call_sel (E := fun (x : Bool) => DV.one (D.b x)) h (fun x7 h1 => (i_InRange_ok N x1.mSense 1 99 h1)) (fun x7 hx7 h => ?_)
      refine avb ?_
      refine brb h ?_ ?_<;>intro _ h
      ·have h := finr hfp1 h
       have h := cutr gt8 h
       cases h;exact eq_by
      ·exact lbk hfp1 h
   ·have h := finr hfp1 h
    refine cut_at (()) (some_in h) ?_
    exact weak_by
  rintro t8 rfl
  have h : _ = some _ := gt8
  refine avb ?_
  cases h;exact eq_by

theorem g_slices_Equal_Simpl_Step_impl_Step_ok (N : Nat) (v0 : List (Gx.Step)) (v1 : List (Gx.Step)) {r : Bool} (h : g_slices_Equal_Simpl_Step_impl_Step N v0 v1 = some r) : Pure Tryz.prog 185 [DV.one (D.sl 4 (List.map Gx.Step.enc v0)), DV.one (D.sl 4 (List.map Gx.Step.enc v1))] (DV.one (D.b r)) := by
 refine pure_of_walk Tryz.tok Tryz.mixed Tryz.func185 (by kernel_rfl) fun W => ?_
 unfold g_slices_Equal_Simpl_Step_impl_Step at h
 refine avb ?_
 refine lns (v0.length : Int) ?_
 refine avb ?_
 refine lns (v1.length : Int) ?_
 refine avb ?_
 refine br_sel h (fun _ h => ?_) (fun _ h => ?_)
 ·refine avb ?_
  cases h;exact eq_by
 ·refine ab0 ?_
  obtain ⟨zt3, h, gt3⟩ := cutb_some h
  refine W.r_cut (fun (t3 : Unit) => ⟨[], [], 1000⟩) (fun t => .nx t = zt3) ?_ ?_
  ·refine avb ?_
   refine lns (v0.length : Int) ?_
   refine avb ?_
   refine loop_lp (fun (p1 : Int) => ⟨[(0, .d (D.sl 4 (List.map Gx.Step.enc v0))), (1, .d (D.sl 4 (List.map Gx.Step.enc v1))), (12, .d (D.i (v0.length : Int))), (13, .d (D.i p1))], [], 1000⟩) h ?_ ?_
   ·exact weak_by
   intro np1 p1 yp1 h hfp1
   unfold g_slices_Equal_Simpl_Step_impl_Step_L1 at h
   refine avb ?_
   refine brb h ?_ ?_<;>intro _ h
   ·refine idx_sel h (fun x1 hx1 h => ?_)
    refine avb ?_
    refine idx_sel h (fun x2 hx2 h => ?_)
    refine avb ?_
    refine brb h ?_ ?_<;>intro _ h
    ·have h := finr hfp1 h
     have h := cutr gt3 h
     cases h;exact eq_by
    ·exact lbk hfp1 h
   ·have h := finr hfp1 h
    refine cut_at (()) (some_in h) ?_
    exact weak_by
  rintro t3 rfl
  have h : _ = some _ := gt3
  refine avb ?_
  cases h;exact eq_by

theorem i_sameClue_ok (N : Nat) (v0 : Gx.Clue) (v1 : Gx.Clue) {r : Bool} (h : i_sameClue N v0 v1 = some r) : Pure Tryz.prog 149 [DV.agg (Gx.Clue.enc v0), DV.agg (Gx.Clue.enc v1)] (DV.one (D.b r)) := by
 refine pure_of_walk Tryz.tok Tryz.mixed Tryz.func149 (by kernel_rfl) fun W => ?_
 unfold i_sameClue at h
 refine avb ?_
 refine brb h ?_ ?_<;>intro _ h
 ·refine plb ?_;refine call_sel (E := fun (x : Bool) => DV.one (D.b x)) h (fun x1 h1 => (g_slices_Equal_Simpl_Step_impl_Step_ok N v0.mPlay v1.mPlay h1)) (fun x1 hx1 h => ?_)
  refine avb ?_
  cases h;exact eq_by
 ·cases h;exact eq_by

theorem g_slices_EqualFunc_Simpl_Clue_Simpl_Clue_impl_Clue_impl_Clue_ok0 (N : Nat) (v0 : List (Gx.Clue)) (v1 : List (Gx.Clue)) (v2 : (Gx.Clue) → (Gx.Clue) → Option Bool) (fv2 : FuncId) (hv2 : ∀ a0 a1 r, v2 a0 a1 = some r → Pure Tryz.prog fv2 [DV.agg (Gx.Clue.enc a0), DV.agg (Gx.Clue.enc a1)] (DV.one (D.b r))) {r : Bool} (h : g_slices_EqualFunc_Simpl_Clue_Simpl_Clue_impl_Clue_impl_Clue N v0 v1 v2 = some r) : Pure Tryz.prog 160 [DV.one (D.sl 2 (List.map Gx.Clue.enc v0)), DV.one (D.sl 2 (List.map Gx.Clue.enc v1)), DV.fn fv2 []] (DV.one (D.b r)) := by
 refine pure_of_walk Tryz.tok Tryz.mixed Tryz.func160 (by kernel_rfl) fun W => ?_
 unfold g_slices_EqualFunc_Simpl_Clue_Simpl_Clue_impl_Clue_impl_Clue at h
 refine avb ?_
 refine lns (v0.length : Int) ?_
 refine avb ?_
 refine lns (v1.length : Int) ?_
 refine avb ?_
 refine br_sel h (fun _ h => ?_) (fun _ h => ?_)
 ·refine avb ?_
  cases h;exact eq_by
 ·refine ab0 ?_
  obtain ⟨zt4, h, gt4⟩ := cutb_some h
  refine W.r_cut (fun (t4 : Unit) => ⟨[], [], 1000⟩) (fun t => .nx t = zt4) ?_ ?_
  ·refine avb ?_
   refine lns (v0.length : Int) ?_
   refine avb ?_
   refine loop_lp (fun (p1 : Int) => ⟨[(1, .d (D.sl 2 (List.map Gx.Clue.enc v1))), (2, .fn fv2 []), (15, .d (D.sl 2 (List.map Gx.Clue.enc v0))), (16, .d (D.i (v0.length : Int))), (17, .d (D.i p1))], [], 1000⟩) h ?_ ?_
   ·exact weak_by
   intro np1 p1 yp1 h hfp1
   unfold g_slices_EqualFunc_Simpl_Clue_Simpl_Clue_impl_Clue_impl_Clue_L1 at h
   refine avb ?_
   refine brb h ?_ ?_<;>intro _ h
   ·refine idx_sel h (fun x1 hx1 h => ?_)
    refine avb ?_
    refine idx_sel h (fun x2 hx2 h => ?_)
    refine avb ?_
    refine plb ?_;refine call_sel (E := fun (x : Bool) => DV.one (D.b x)) h (fun x3 h1 => (hv2 _ _ _ h1)) (fun x3 hx3 h => ?_)
    refine avb ?_
    refine brb h ?_ ?_<;>intro _ h
    ·have h := finr hfp1 h
     have h := cutr gt4 h
     cases h;exact eq_by
    ·exact lbk hfp1 h
   ·have h := finr hfp1 h
    refine cut_at (()) (some_in h) ?_
    exact weak_by
  rintro t4 rfl
  have h : _ = some _ := gt4
  refine avb ?_
  cases h;exact eq_by

theorem i_EqualDrafts_ok (N : Nat) (v0 : Gx.Draft) (v1 : Gx.Draft) {r : Bool} (h : i_EqualDrafts N v0 v1 = some r) : Pure Tryz.prog 117 [DV.agg (Gx.Draft.enc v0), DV.agg (Gx.Draft.enc v1)] (DV.one (D.b r)) := by
 refine pure_of_walk Tryz.tok Tryz.mixed Tryz.func117 (by kernel_rfl) fun W => ?_
 unfold i_EqualDrafts at h
 refine avb ?_
 refine brb h ?_ ?_<;>intro _ h
 ·refine brb h ?_ ?_<;>intro _ h
  ·refine plb ?_;refine call_sel (E := fun (x : Bool) => DV.one (D.b x)) h (fun x1 h1 => (g_slices_EqualFunc_Simpl_Clue_Simpl_Clue_impl_Clue_impl_Clue_ok0 N v0.mClues v1.mClues (fun a0 a1 => i_sameClue N a0 a1) 149 (fun a0 a1 _ hh => i_sameClue_ok N a0 a1 hh) h1)) (fun x1 hx1 h => ?_)
   refine avb ?_
   refine brb h ?_ ?_<;>intro _ h
   ·cases h;exact eq_by
   ·cases h;exact eq_by
  ·cases h;exact eq_by
 ·cases h;exact eq_by

theorem i_IsGrid_ok (N : Nat) (v0 : Gx.Grid) {r : Bool} (h : i_IsGrid N v0 = some r) : Pure Tryz.prog 177 [DV.agg (Gx.Grid.enc v0)] (DV.one (D.b r)) := by
 refine pure_of_walk Tryz.tok Tryz.mixed Tryz.func177 (by kernel_rfl) fun W => ?_
 unfold i_IsGrid at h
 refine avb ?_
 refine plb ?_;refine call_sel (E := fun (x : Bool) => DV.one (D.b x)) h (fun x1 h1 => (i_InRange_ok N v0.mRows 2 6 h1)) (fun x1 hx1 h => ?_)
 refine avb ?_
 refine brb h ?_ ?_<;>intro _ h
 ·cases h;exact eq_by
 ·refine plb ?_;refine call_sel (E := fun (x : Bool) => DV.one (D.b x)) h (fun x2 h1 => (i_InRange_ok N v0.mCols 2 6 h1)) (fun x2 hx2 h => ?_)
  refine avb ?_
  refine brb h ?_ ?_<;>intro _ h
  ·cases h;exact eq_by
  ·refine lns (v0.mCells.length : Int) ?_
   refine avb ?_
   refine br_sel h (fun _ h => ?_) (fun _ h => ?_)
   ·refine avb ?_
    cases h;exact eq_by
   ·refine ab0 ?_
    obtain ⟨zt3, h, gt3⟩ := cutb_some h
    refine W.r_cut (fun (t3 : Unit) => ⟨[], [], 1000⟩) (fun t => .nx t = zt3) ?_ ?_
    ·refine avb ?_
     refine lns (v0.mCells.length : Int) ?_
     refine avb ?_
     refine loop_lp (fun (p1 : Int) => ⟨[(1, .ptr 1 0 0), (27, .d (D.i (v0.mCells.length : Int))), (28, .d (D.i p1))], [(1, some (.box [.d (D.i v0.mRows), .d (D.i v0.mCols), .d (D.s v0.mCells)]))], 1000⟩) h ?_ ?_
     ·exact weak_by
     intro np1 p1 yp1 h hfp1
     unfold i_IsGrid_L1 at h
     refine avb ?_
     refine brb h ?_ ?_<;>intro _ h
     ·refine chk_sel h (fun q => q) (fun h => ?_)
      refine avb ?_
      refine brb h ?_ ?_<;>intro _ h
      ·refine chk_sel h (fun q => q) (fun h => ?_)
       refine avb ?_
       refine brb h ?_ ?_<;>intro _ h
       ·have h := finr hfp1 h
        have h := cutr gt3 h
        cases h;exact eq_by
       ·exact lbk hfp1 h
      ·exact lbk hfp1 h
     ·have h := finr hfp1 h
      refine cut_at (()) (some_in h) ?_
      exact weak_by
    rintro t3 rfl
    have h : _ = some _ := gt3
    refine avb ?_
    cases h;exact eq_by

theorem g_slices_Reverse_Sbyte_byte_ok (N : Nat) (v0 : List (UInt8)) {r : (List (UInt8))} (h : g_slices_Reverse_Sbyte_byte N v0 = some r) : Turn Tryz.prog 225 [.sl 0] [.arr 1 (List.map encU v0) true] [some (.arr 1 (List.map encU r) true)] (.tup []) := by
 refine turn_of_walk Tryz.tok Tryz.mixed Tryz.func225 (by kernel_rfl) rfl fun W => ?_
 unfold g_slices_Reverse_Sbyte_byte at h
 refine avb ?_
 refine lns (v0.length : Int) ?_
 refine avb ?_
 refine loop_lp (fun (p1 : (List (UInt8)) × Int × Int) => ⟨[(0, .sl 1), (2, .d (D.i p1.2.1)), (3, .d (D.i p1.2.2))], [(1, some (.arr 1 (List.map encU p1.1) true)), (990, some (.pin [.sl 1]))], 1000⟩) h ?_ ?_
 ·exact weak_by
 intro np1 p1 yp1 h hfp1
 unfold g_slices_Reverse_Sbyte_byte_L1 at h
 refine avb ?_
 refine brb h ?_ ?_<;>intro _ h
 ·refine idxp_sel h (fun x1 hx1 h => ?_)
  refine avb ?_
  refine ldp_sel hx1 ?_
  refine avb ?_
  refine idxp_sel h (fun x2 hx2 h => ?_)
  refine avb ?_
  refine ldp_sel hx2 ?_
  refine avb ?_
  refine idxp_sel h (fun x3 hx3 h => ?_)
  refine avb ?_
  refine ldp_sel hx3 ?_
  refine avb ?_
  refine idxp_raw (show _ = List.map encU (List.set p1.1 (Int.toNat p1.2.1) x1) by (exact eq_by)) h (fun x4 hx4 h => ?_)
  refine avb ?_
  refine ldp_raw (show _ = List.map encU (List.set p1.1 (Int.toNat p1.2.1) x1) by (exact eq_by)) hx4 ?_
  refine avb ?_
  exact lbk hfp1 h
 ·have h := finr hfp1 h
  obtain rfl := some_in h
  exact ⟨cons_eq (some_arr (by (exact eq_by))) (rfl), by (exact eq_by)⟩

theorem i_Backwards_ok (N : Nat) (v0 : List UInt8) {r : (List UInt8)} (h : i_Backwards N v0 = some r) : Pure Tryz.prog 219 [DV.one (D.s v0)] (DV.one (D.s r)) := by
 refine pure_of_walk Tryz.tok Tryz.mixed Tryz.func219 (by kernel_rfl) fun W => ?_
 unfold i_Backwards at h
 refine avb ?_
 refine lns (v0.length : Int) ?_
 refine avb ?_
 refine brb h ?_ ?_<;>intro _ h
 ·cases h;exact eq_by
 ·refine chk_sel h (fun q => Nat.le_trans q (by decide)) (fun h => ?_)
  refine avb ?_
  refine qtb ?_;refine turn_sel (O := fun (x1 : (List (UInt8))) => [some (.arr 1 (List.map encU x1) true)]) (V := fun (x1 : (List (UInt8))) => .tup []) h ⟨flat_map (fun _ => rfl), trivial⟩ (fun x1 h1 => (g_slices_Reverse_Sbyte_byte_ok N v0 h1)) (fun x1 hx1 h => ?_)
  refine avb ?_
  refine ⟨x1, (by (exact eq_by)), ?_⟩
  refine avb ?_
  cases h;exact eq_by

theorem i_TurnGrid_ok (N : Nat) (v0 : Gx.Grid) {r : Gx.Grid} (h : i_TurnGrid N v0 = some r) : Pure Tryz.prog 203 [DV.agg (Gx.Grid.enc v0)] (DV.agg (Gx.Grid.enc r)) := by
 refine pure_of_walk Tryz.tok Tryz.mixed Tryz.func203 (by kernel_rfl) fun W => ?_
 unfold i_TurnGrid at h
 refine avb ?_
 refine plb ?_;refine call_sel (E := fun (x : Bool) => DV.one (D.b x)) h (fun x1 h1 => (i_IsGrid_ok N v0 h1)) (fun x1 hx1 h => ?_)
 refine avb ?_
 refine brb h ?_ ?_<;>intro _ h
 ·cases h;exact eq_by
 ·refine plb ?_;refine call_sel (E := fun (x : (List UInt8)) => DV.one (D.s x)) h (fun x2 h1 => (i_Backwards_ok N v0.mCells h1)) (fun x2 hx2 h => ?_)
  refine avb ?_
  cases h;exact eq_by

theorem i_IsSymmetric_ok (N : Nat) (v0 : Gx.Grid) {r : Bool} (h : i_IsSymmetric N v0 = some r) : Pure Tryz.prog 179 [DV.agg (Gx.Grid.enc v0)] (DV.one (D.b r)) := by
 refine pure_of_walk Tryz.tok Tryz.mixed Tryz.func179 (by kernel_rfl) fun W => ?_
 unfold i_IsSymmetric at h
 refine avb ?_
 refine plb ?_;refine call_sel (E := fun (x : Bool) => DV.one (D.b x)) h (fun x1 h1 => (i_IsGrid_ok N v0 h1)) (fun x1 hx1 h => ?_)
 refine avb ?_
 refine brb h ?_ ?_<;>intro _ h
 ·refine plb ?_;refine call_sel (E := fun (x : Gx.Grid) => DV.agg (Gx.Grid.enc x)) h (fun x2 h1 => (i_TurnGrid_ok N v0 h1)) (fun x2 hx2 h => ?_)
  refine avb ?_
  cases h;exact eq_by
 ·cases h;exact eq_by

theorem i_at_ok (N : Nat) (v0 : Int) (v1 : Int) {r : Bool} (h : i_at N v0 v1 = some r) : Pure Tryz.prog 107 [DV.one (D.i v0), DV.one (D.i v1)] (DV.one (D.b r)) := by
 refine pure_of_walk Tryz.tok Tryz.mixed Tryz.func107 (by kernel_rfl) fun W => ?_
 unfold i_at at h
 refine avb ?_
 refine brb h ?_ ?_<;>intro _ h
 ·cases h;exact eq_by
 ·cases h;exact eq_by

theorem i_PartsOf_1_B_ok (N : Nat) (r_i_PartsOf_1 : Int → Int → Gx.Grid → (List (Bool)) → Option ((List (Bool)))) (hr_i_PartsOf_1 : ∀ a0 a1 a2 a3 r, r_i_PartsOf_1 a0 a1 a2 a3 = some r → Turn Tryz.prog 220 [.d (D.i a0), .d (D.i a1), .ptr 0 0 0, .ptr 1 0 0, .ptr 2 0 0] [.box [.d (D.i a2.mRows), .d (D.i a2.mCols), .d (D.s a2.mCells)], .box [.sl 3], .box [.fn 220 [.ptr 0 0 0, .ptr 1 0 0, .ptr 2 0 0]], .arr 1 (List.map Gx.encB a3) true] [some (.box [.d (D.i a2.mRows), .d (D.i a2.mCols), .d (D.s a2.mCells)]), some (.box [.sl 3]), some (.box [.fn 220 [.ptr 0 0 0, .ptr 1 0 0, .ptr 2 0 0]]), some (.arr 1 (List.map Gx.encB r) true)] (.tup [])) (v0 : Int) (v1 : Int) (c0 : Gx.Grid) (c1 : List (Bool)) {r : (List (Bool))} (h : i_PartsOf_1_B N r_i_PartsOf_1 v0 v1 c0 c1 = some r) : Turn Tryz.prog 220 [.d (D.i v0), .d (D.i v1), .ptr 0 0 0, .ptr 1 0 0, .ptr 2 0 0] [.box [.d (D.i c0.mRows), .d (D.i c0.mCols), .d (D.s c0.mCells)], .box [.sl 3], .box [.fn 220 [.ptr 0 0 0, .ptr 1 0 0, .ptr 2 0 0]], .arr 1 (List.map Gx.encB c1) true] [some (.box [.d (D.i c0.mRows), .d (D.i c0.mCols), .d (D.s c0.mCells)]), some (.box [.sl 3]), some (.box [.fn 220 [.ptr 0 0 0, .ptr 1 0 0, .ptr 2 0 0]]), some (.arr 1 (List.map Gx.encB r) true)] (.tup []) := by
 refine turn_of_walk Tryz.tok Tryz.mixed Tryz.func220 (by kernel_rfl) rfl fun W => ?_
 unfold i_PartsOf_1_B at h
 refine avb ?_
 refine plb ?_;refine call_sel (E := fun (x : Bool) => DV.one (D.b x)) h (fun x1 h1 => (i_at_ok N v0 c0.mRows h1)) (fun x1 hx1 h => ?_)
 refine avb ?_
 refine brb h ?_ ?_<;>intro _ h
 ·obtain rfl := some_in h
  exact ⟨cons_eq rfl (cons_eq rfl (cons_eq rfl (cons_eq (some_arr (by (exact eq_by))) (rfl)))), by (exact eq_by)⟩
 ·refine plb ?_;refine call_sel (E := fun (x : Bool) => DV.one (D.b x)) h (fun x2 h1 => (i_at_ok N v1 c0.mCols h1)) (fun x2 hx2 h => ?_)
  refine avb ?_
  refine brb h ?_ ?_<;>intro _ h
  ·obtain rfl := some_in h
   exact ⟨cons_eq rfl (cons_eq rfl (cons_eq rfl (cons_eq (some_arr (by (exact eq_by))) (rfl)))), by (exact eq_by)⟩
  ·refine idxp_sel h (fun x3 hx3 h => ?_)
   refine avb ?_
   refine ldp_sel hx3 ?_
   refine avb ?_
   refine brb h ?_ ?_<;>intro _ h
   ·obtain rfl := some_in h
    exact ⟨cons_eq rfl (cons_eq rfl (cons_eq rfl (cons_eq (some_arr (by (exact eq_by))) (rfl)))), by (exact eq_by)⟩
   ·refine chk_sel h (fun q => q) (fun h => ?_)
    refine avb ?_
    refine brb h ?_ ?_<;>intro _ h
    ·obtain rfl := some_in h
     exact ⟨cons_eq rfl (cons_eq rfl (cons_eq rfl (cons_eq (some_arr (by (exact eq_by))) (rfl)))), by (exact eq_by)⟩
    ·refine idxp_sel h (fun x4 hx4 h => ?_)
     refine avb ?_
     refine ldp_sel hx4 ?_
     refine avb ?_
     refine qtb ?_;refine turn_sel (O := fun (x5 : (List (Bool))) => [some (.box [.d (D.i c0.mRows), .d (D.i c0.mCols), .d (D.s c0.mCells)]), some (.box [.sl 3]), some (.box [.fn 220 [.ptr 0 0 0, .ptr 1 0 0, .ptr 2 0 0]]), some (.arr 1 (List.map Gx.encB x5) true)]) (V := fun (x5 : (List (Bool))) => .tup []) h ⟨flat_eq (show _ = List.map Gx.encB (List.set c1 (Int.toNat (w64 ((w64 (v0 * c0.mCols)) + v1))) true) by (exact eq_by)) (fun _ => rfl), trivial⟩ (fun x5 h1 => (turn_objs (by (exact eq_by)) (hr_i_PartsOf_1 (w64 (v0 - 1)) v1 c0 (List.set c1 (Int.toNat (w64 ((w64 (v0 * c0.mCols)) + v1))) true) _ h1))) (fun x5 hx5 h => ?_)
     refine avb ?_
     refine qtb ?_;refine turn_sel (O := fun (x6 : (List (Bool))) => [some (.box [.d (D.i c0.mRows), .d (D.i c0.mCols), .d (D.s c0.mCells)]), some (.box [.sl 3]), some (.box [.fn 220 [.ptr 0 0 0, .ptr 1 0 0, .ptr 2 0 0]]), some (.arr 1 (List.map Gx.encB x6) true)]) (V := fun (x6 : (List (Bool))) => .tup []) h ⟨flat_map (fun _ => rfl), trivial⟩ (fun x6 h1 => (hr_i_PartsOf_1 (w64 (v0 + 1)) v1 c0 x5 _ h1)) (fun x6 hx6 h => ?_)
     refine avb ?_
     refine qtb ?_;refine turn_sel (O := fun (x7 : (List (Bool))) => [some (.box [.d (D.i c0.mRows), .d (D.i c0.mCols), .d (D.s c0.mCells)]), some (.box [.sl 3]), some (.box [.fn 220 [.ptr 0 0 0, .ptr 1 0 0, .ptr 2 0 0]]), some (.arr 1 (List.map Gx.encB x7) true)]) (V := fun (x7 : (List (Bool))) => .tup []) h ⟨flat_map (fun _ => rfl), trivial⟩ (fun x7 h1 => (hr_i_PartsOf_1 v0 (w64 (v1 - 1)) c0 x6 _ h1)) (fun x7 hx7 h => ?_)
     refine avb ?_
     refine qtb ?_;refine turn_sel (O := fun (x8 : (List (Bool))) => [some (.box [.d (D.i c0.mRows), .d (D.i c0.mCols), .d (D.s c0.mCells)]), some (.box [.sl 3]), some (.box [.fn 220 [.ptr 0 0 0, .ptr 1 0 0, .ptr 2 0 0]]), some (.arr 1 (List.map Gx.encB x8) true)]) (V := fun (x8 : (List (Bool))) => .tup []) h ⟨flat_map (fun _ => rfl), trivial⟩ (fun x8 h1 => (hr_i_PartsOf_1 v0 (w64 (v1 + 1)) c0 x7 _ h1)) (fun x8 hx8 h => ?_)
     refine avb ?_
     obtain rfl := some_in h
     exact ⟨cons_eq rfl (cons_eq rfl (cons_eq rfl (cons_eq (some_arr (by (exact eq_by))) (rfl)))), by (exact eq_by)⟩

theorem i_PartsOf_1_R_ok (N : Nat) : ∀ n : Nat, (∀ a0 a1 a2 a3 r, i_PartsOf_1_R N n a0 a1 a2 a3 = some r → Turn Tryz.prog 220 [.d (D.i a0), .d (D.i a1), .ptr 0 0 0, .ptr 1 0 0, .ptr 2 0 0] [.box [.d (D.i a2.mRows), .d (D.i a2.mCols), .d (D.s a2.mCells)], .box [.sl 3], .box [.fn 220 [.ptr 0 0 0, .ptr 1 0 0, .ptr 2 0 0]], .arr 1 (List.map Gx.encB a3) true] [some (.box [.d (D.i a2.mRows), .d (D.i a2.mCols), .d (D.s a2.mCells)]), some (.box [.sl 3]), some (.box [.fn 220 [.ptr 0 0 0, .ptr 1 0 0, .ptr 2 0 0]]), some (.arr 1 (List.map Gx.encB r) true)] (.tup []))
 | 0 => fun _ _ _ _ _ h => by simp [i_PartsOf_1_R] at h
 | n + 1 => by
  have ih := i_PartsOf_1_R_ok N n
  exact fun a0 a1 a2 a3 _ h => i_PartsOf_1_B_ok N _ (ih) a0 a1 a2 a3 h

theorem i_PartsOf_1_ok (N : Nat) (v0 : Int) (v1 : Int) (v2 : Gx.Grid) (v3 : List (Bool)) {r : (List (Bool))} (h : i_PartsOf_1 N v0 v1 v2 v3 = some r) : Turn Tryz.prog 220 [.d (D.i v0), .d (D.i v1), .ptr 0 0 0, .ptr 1 0 0, .ptr 2 0 0] [.box [.d (D.i v2.mRows), .d (D.i v2.mCols), .d (D.s v2.mCells)], .box [.sl 3], .box [.fn 220 [.ptr 0 0 0, .ptr 1 0 0, .ptr 2 0 0]], .arr 1 (List.map Gx.encB v3) true] [some (.box [.d (D.i v2.mRows), .d (D.i v2.mCols), .d (D.s v2.mCells)]), some (.box [.sl 3]), some (.box [.fn 220 [.ptr 0 0 0, .ptr 1 0 0, .ptr 2 0 0]]), some (.arr 1 (List.map Gx.encB r) true)] (.tup []) :=
 (i_PartsOf_1_R_ok N N) v0 v1 v2 v3 _ h

theorem i_PartsOf_ok (N : Nat) (v0 : Gx.Grid) {r : Int} (h : i_PartsOf N v0 = some r) : Pure Tryz.prog 204 [DV.agg (Gx.Grid.enc v0)] (DV.one (D.i r)) := by
 refine pure_of_walk Tryz.tok Tryz.mixed Tryz.func204 (by kernel_rfl) fun W => ?_
 unfold i_PartsOf at h
 refine avb ?_
 refine plb ?_;refine call_sel (E := fun (x : Bool) => DV.one (D.b x)) h (fun x1 h1 => (i_IsGrid_ok N v0 h1)) (fun x1 hx1 h => ?_)
 refine avb ?_
 refine brb h ?_ ?_<;>intro _ h
 ·cases h;exact eq_by
 ·refine lns (v0.mCells.length : Int) ?_
  refine avb ?_
  refine chk_sel h (fun q => mks_ok q (by decide)) (fun h => ?_)
  refine ab0 ?_
  refine W.r_seq ?_
  refine ab0 ?_
  refine W.r_seq ?_
  refine ab0 ?_
  refine W.r_seq ?_
  refine ab0 ?_
  obtain ⟨zt5, h, gt5⟩ := bnd_some h
  refine W.r_cut (fun (t5 : Int) => ⟨[(5, .d (D.i t5))], [], 1000⟩) (fun t => t = zt5) ?_ ?_
  ·refine avb ?_
   refine lns (v0.mCells.length : Int) ?_
   refine avb ?_
   refine loop_lp (fun (p1 : (List (Bool)) × Int × Int) => ⟨[(1, .ptr 1 0 0), (3, .ptr 2 0 0), (4, .ptr 4 0 0), (5, .d (D.i p1.2.1)), (17, .d (D.i (v0.mCells.length : Int))), (18, .d (D.i p1.2.2))], [(1, some (.box [.d (D.i v0.mRows), .d (D.i v0.mCols), .d (D.s v0.mCells)])), (2, some (.box [.sl 3])), (3, some (.arr 1 (List.map Gx.encB p1.1) true)), (4, some (.box [.fn 220 [.ptr 1 0 0, .ptr 2 0 0, .ptr 4 0 0]]))], 1000⟩) h ?_ ?_
   ·exact weak_by
   intro np1 p1 yp1 h hfp1
   unfold i_PartsOf_L1 at h
   refine avb ?_
   refine br_sel h (fun _ h => ?_) (fun _ h => ?_)
   ·refine ab0 ?_
    refine W.r_seq ?_
    refine ab0 ?_
    refine W.r_seq ?_
    refine ab0 ?_
    obtain ⟨zt3, h, gt3⟩ := bnd_some h
    refine W.r_cut (fun (t3 : Bool) => ⟨[(1, .ptr 1 0 0), (3, .ptr 2 0 0), (4, .ptr 4 0 0), (5, .d (D.i p1.2.1)), (6, .d (D.i p1.2.2)), (17, .d (D.i (v0.mCells.length : Int))), (18, .d (D.i p1.2.2)), (32, .d (D.b t3))], [(1, some (.box [.d (D.i v0.mRows), .d (D.i v0.mCols), .d (D.s v0.mCells)])), (2, some (.box [.sl 3])), (3, some (.arr 1 (List.map Gx.encB p1.1) true)), (4, some (.box [.fn 220 [.ptr 1 0 0, .ptr 2 0 0, .ptr 4 0 0]]))], 1000⟩) (fun t => t = zt3) ?_ ?_
    ·refine avb ?_
     refine chk_sel h (fun q => q) (fun h => ?_)
     refine avb ?_
     refine brb h ?_ ?_<;>intro _ h
     ·refine idxp_sel h (fun x2 hx2 h => ?_)
      refine avb ?_
      refine ldp_sel hx2 ?_
      refine avb ?_
      refine cut_at (!x2) (some_in h) ?_
      exact weak_by
     ·refine cut_at (false) (some_in h) ?_
      exact weak_by
    rintro t3 rfl
    have h : _ = some _ := gt3
    refine avb ?_
    refine brb h ?_ ?_<;>intro _ h
    ·refine chk_sel h (fun q => q) (fun h => ?_)
     refine avb ?_
     refine chk_sel h (fun q => q) (fun h => ?_)
     refine avb ?_
     refine qtb ?_;refine turn_sel (O := fun (x4 : (List (Bool))) => [some (.box [.d (D.i v0.mRows), .d (D.i v0.mCols), .d (D.s v0.mCells)]), some (.box [.sl 3]), some (.box [.fn 220 [.ptr 0 0 0, .ptr 1 0 0, .ptr 2 0 0]]), some (.arr 1 (List.map Gx.encB x4) true)]) (V := fun (x4 : (List (Bool))) => .tup []) h ⟨flat_map (fun _ => rfl), trivial⟩ (fun x4 h1 => (i_PartsOf_1_ok N (w64 (Int.tdiv p1.2.2 v0.mCols)) (Int.tmod p1.2.2 v0.mCols) v0 p1.1 h1)) (fun x4 hx4 h => ?_)
     refine avb ?_
     exact lbk hfp1 h
    ·exact lbk hfp1 h
   ·refine avb ?_
    have h := finr hfp1 h
    refine cut_at (p1.2.1) (some_in h) ?_
    exact weak_by
  rintro t5 rfl
  have h : _ = some _ := gt5
  refine avb ?_
  cases h;exact eq_by

theorem i_IsConnected_ok (N : Nat) (v0 : Gx.Grid) {r : Bool} (h : i_IsConnected N v0 = some r) : Pure Tryz.prog 180 [DV.agg (Gx.Grid.enc v0)] (DV.one (D.b r)) := by
 refine pure_of_walk Tryz.tok Tryz.mixed Tryz.func180 (by kernel_rfl) fun W => ?_
 unfold i_IsConnected at h
 refine avb ?_
 refine plb ?_;refine call_sel (E := fun (x : Int) => DV.one (D.i x)) h (fun x1 h1 => (i_PartsOf_ok N v0 h1)) (fun x1 hx1 h => ?_)
 refine avb ?_
 cases h;exact eq_by

theorem i_run_ok (N : Nat) (v0 : Gx.Grid) (v1 : Int) (v2 : Bool) {r : Int} (h : i_run N v0 v1 v2 = some r) : Pure Tryz.prog 178 [DV.agg (Gx.Grid.enc v0), DV.one (D.i v1), DV.one (D.b v2)] (DV.one (D.i r)) := by
 refine pure_of_walk Tryz.tok Tryz.mixed Tryz.func178 (by kernel_rfl) fun W => ?_
 unfold i_run at h
 refine avb ?_
 refine chk_sel h (fun q => q) (fun h => ?_)
 refine ab0 ?_
 obtain ⟨zt1, h, gt1⟩ := bnd_some h
 refine W.r_cut (fun (t1 : Int × Int × Int) => ⟨[(1, .d (D.i v1)), (3, .ptr 1 0 0), (7, .d (D.i t1.1)), (8, .d (D.i t1.2.1)), (9, .d (D.i t1.2.2))], [(1, some (.box [.d (D.i v0.mRows), .d (D.i v0.mCols), .d (D.s v0.mCells)]))], 1000⟩) (fun t => t = zt1) ?_ ?_
 ·refine avb ?_
  refine brb h ?_ ?_<;>intro _ h
  ·refine chk_sel h (fun q => q) (fun h => ?_)
   refine avb ?_
   refine cut_at ((v0.mCols, w64 (Int.tdiv v1 v0.mCols), v0.mRows)) (some_in h) ?_
   exact weak_by
  ·refine cut_at ((1, Int.tmod v1 v0.mCols, v0.mCols)) (some_in h) ?_
   exact weak_by
 rintro t1 rfl
 have h : _ = some _ := gt1
 refine ab0 ?_
 obtain ⟨zt2, h, gt2⟩ := cutb_some h
 refine W.r_cut (fun (t2 : Unit) => ⟨[(1, .d (D.i v1)), (3, .ptr 1 0 0), (7, .d (D.i t1.1)), (8, .d (D.i t1.2.1)), (9, .d (D.i t1.2.2))], [(1, some (.box [.d (D.i v0.mRows), .d (D.i v0.mCols), .d (D.s v0.mCells)]))], 1000⟩) (fun t => .nx t = zt2) ?_ ?_
 ·refine avb ?_
  refine chk_sel h (fun q => q) (fun h => ?_)
  refine avb ?_
  refine brb h ?_ ?_<;>intro _ h
  ·have h := cutr gt2 h
   cases h;exact eq_by
  ·refine brb h ?_ ?_<;>intro _ h
   ·refine chk_sel h (fun q => q) (fun h => ?_)
    refine avb ?_
    refine brb h ?_ ?_<;>intro _ h
    ·have h := cutr gt2 h
     cases h;exact eq_by
    ·refine cut_at (()) (some_in h) ?_
     exact weak_by
   ·refine cut_at (()) (some_in h) ?_
    exact weak_by
 rintro t2 rfl
 have h : _ = some _ := gt2
 refine ab0 ?_
 refine W.r_seq ?_
 refine ab0 ?_
 obtain ⟨zt3, h, gt3⟩ := bnd_some h
 refine W.r_cut (fun (t3 : Int) => ⟨[(10, .d (D.i t3))], [], 1000⟩) (fun t => t = zt3) ?_ ?_
 ·refine avb ?_
  refine loop_lp (fun (p1 : Int) => ⟨[(1, .d (D.i v1)), (3, .ptr 1 0 0), (7, .d (D.i t1.1)), (8, .d (D.i t1.2.1)), (9, .d (D.i t1.2.2)), (10, .d (D.i p1))], [(1, some (.box [.d (D.i v0.mRows), .d (D.i v0.mCols), .d (D.s v0.mCells)]))], 1000⟩) h ?_ ?_
  ·exact weak_by
  intro np1 p1 yp1 h hfp1
  unfold i_run_L1 at h
  refine avb ?_
  refine brb h ?_ ?_<;>intro _ h
  ·refine chk_sel h (fun q => q) (fun h => ?_)
   refine avb ?_
   refine brb h ?_ ?_<;>intro _ h
   ·exact lbk hfp1 h
   ·have h := finr hfp1 h
    refine cut_at (p1) (some_in h) ?_
    exact weak_by
  ·have h := finr hfp1 h
   refine cut_at (p1) (some_in h) ?_
   exact weak_by
 rintro t3 rfl
 have h : _ = some _ := gt3
 refine avb ?_
 cases h;exact eq_by

theorem i_SlotsOf_ok (N : Nat) (v0 : Gx.Grid) {r : (List (Gx.Slot))} (h : i_SlotsOf N v0 = some r) : Pure Tryz.prog 142 [DV.agg (Gx.Grid.enc v0)] (DV.one (D.sl 4 (List.map Gx.Slot.enc r))) := by
 refine pure_of_walk Tryz.tok Tryz.mixed Tryz.func142 (by kernel_rfl) fun W => ?_
 unfold i_SlotsOf at h
 refine avb ?_
 refine plb ?_;refine call_sel (E := fun (x : Bool) => DV.one (D.b x)) h (fun x1 h1 => (i_IsGrid_ok N v0 h1)) (fun x1 hx1 h => ?_)
 refine avb ?_
 refine br_sel h (fun _ h => ?_) (fun _ h => ?_)
 ·refine avb ?_
  cases h;exact eq_by
 ·refine ab0 ?_
  refine W.r_seq ?_
  refine ab0 ?_
  refine W.r_seq ?_
  refine ab0 ?_
  obtain ⟨zt6, h, gt6⟩ := bnd_some h
  refine W.r_cut (fun (t6 : (List (Gx.Slot))) => ⟨[(3, .sl 1)], [(1, some (.arr 4 (List.map Gx.Slot.enc t6) true))], 1000⟩) (fun t => t = zt6) ?_ ?_
  ·refine avb ?_
   refine lns (v0.mCells.length : Int) ?_
   refine avb ?_
   refine loop_lp (fun (p1 : (List (Gx.Slot)) × Int × Int) => ⟨[(1, .ptr 1 0 0), (3, .sl 2), (4, .d (D.i p1.2.1)), (13, .d (D.i (v0.mCells.length : Int))), (14, .d (D.i p1.2.2))], [(1, some (.box [.d (D.i v0.mRows), .d (D.i v0.mCols), .d (D.s v0.mCells)])), (2, some (.arr 4 (List.map Gx.Slot.enc p1.1) true))], 1000⟩) h ?_ ?_
   ·exact weak_by
   intro np1 p1 yp1 h hfp1
   unfold i_SlotsOf_L1 at h
   refine avb ?_
   refine brb h ?_ ?_<;>intro _ h
   ·refine plb ?_;refine call_sel (E := fun (x : Int) => DV.one (D.i x)) h (fun x2 h1 => (i_run_ok N v0 p1.2.2 false h1)) (fun x2 hx2 h => ?_)
    refine avb ?_
    refine plb ?_;refine call_sel (E := fun (x : Int) => DV.one (D.i x)) h (fun x3 h1 => (i_run_ok N v0 p1.2.2 true h1)) (fun x3 hx3 h => ?_)
    refine ab0 ?_
    obtain ⟨zt4, h, gt4⟩ := bnd_some h
    refine W.r_cut (fun (t4 : Int) => ⟨[(1, .ptr 1 0 0), (3, .sl 2), (4, .d (D.i t4)), (5, .d (D.i p1.2.2)), (6, .d (D.i x2)), (7, .d (D.i x3)), (13, .d (D.i (v0.mCells.length : Int))), (14, .d (D.i p1.2.2))], [(1, some (.box [.d (D.i v0.mRows), .d (D.i v0.mCols), .d (D.s v0.mCells)])), (2, some (.arr 4 (List.map Gx.Slot.enc p1.1) true))], 1000⟩) (fun t => t = zt4) ?_ ?_
    ·refine avb ?_
     refine brb h ?_ ?_<;>intro _ h
     ·refine cut_at (w64 (p1.2.1 + 1)) (some_in h) ?_
      exact weak_by
     ·refine brb h ?_ ?_<;>intro _ h
      ·refine cut_at (w64 (p1.2.1 + 1)) (some_in h) ?_
       exact weak_by
      ·refine cut_at (p1.2.1) (some_in h) ?_
       exact weak_by
    rintro t4 rfl
    have h : _ = some _ := gt4
    refine ab0 ?_
    obtain ⟨zt5, h, gt5⟩ := bnd_some h
    refine W.r_cut (fun (t5 : (List (Gx.Slot))) => ⟨[(1, .ptr 1 0 0), (3, .sl 2), (4, .d (D.i t4)), (5, .d (D.i p1.2.2)), (7, .d (D.i x3)), (13, .d (D.i (v0.mCells.length : Int))), (14, .d (D.i p1.2.2))], [(1, some (.box [.d (D.i v0.mRows), .d (D.i v0.mCols), .d (D.s v0.mCells)])), (2, some (.arr 4 (List.map Gx.Slot.enc t5) true))], 1000⟩) (fun t => t = zt5) ?_ ?_
    ·refine avb ?_
     refine brb h ?_ ?_<;>intro _ h
     ·refine app_sel h (app_ok (by (first|rfl|simp [sub])) (by (first|rfl|simp [sub])) (by decide)) (by (intro h; cases h)) (fun h => ?_)
      refine avb ?_
      refine cut_at (p1.1 ++ ([(⟨t4, false, p1.2.2, x2⟩ : Gx.Slot)])) (some_in h) ?_
      exact weak_by
     ·refine cut_at (p1.1) (some_in h) ?_
      exact weak_by
    rintro t5 rfl
    have h : _ = some _ := gt5
    refine avb ?_
    refine brb h ?_ ?_<;>intro _ h
    ·refine app_sel h (app_ok (by (first|rfl|simp [sub])) (by (first|rfl|simp [sub])) (by decide)) (by (intro h; cases h)) (fun h => ?_)
     refine avb ?_
     exact lbk hfp1 h
    ·exact lbk hfp1 h
   ·have h := finr hfp1 h
    refine cut_at (p1.1) (some_in h) ?_
    exact weak_by
  rintro t6 rfl
  have h : _ = some _ := gt6
  refine avb ?_
  cases h;exact eq_by

theorem i_cells_ok (N : Nat) (v0 : Gx.Grid) (v1 : Gx.Slot) {r : (List (Int))} (h : i_cells N v0 v1 = some r) : Pure Tryz.prog 143 [DV.agg (Gx.Grid.enc v0), DV.agg (Gx.Slot.enc v1)] (DV.one (D.sl 1 (List.map Gx.encI r))) := by
 refine pure_of_walk Tryz.tok Tryz.mixed Tryz.func143 (by kernel_rfl) fun W => ?_
 unfold i_cells at h
 refine ab0 ?_
 refine W.r_seq ?_
 refine ab0 ?_
 refine W.r_seq ?_
 refine ab0 ?_
 obtain ⟨zt1, h, gt1⟩ := bnd_some h
 refine W.r_cut (fun (t1 : Int) => ⟨[(3, .ptr 1 0 0), (5, .d (D.i t1))], [(1, some (.box [.d (D.i v1.mNumber), .d (D.b v1.mDown), .d (D.i v1.mCell), .d (D.i v1.mLength)]))], 1000⟩) (fun t => t = zt1) ?_ ?_
 ·refine avb ?_
  refine brb h ?_ ?_<;>intro _ h
  ·refine cut_at (v0.mCols) (some_in h) ?_
   exact weak_by
  ·refine cut_at (1) (some_in h) ?_
   exact weak_by
 rintro t1 rfl
 have h : _ = some _ := gt1
 refine ab0 ?_
 refine W.r_seq ?_
 refine ab0 ?_
 obtain ⟨zt2, h, gt2⟩ := bnd_some h
 refine W.r_cut (fun (t2 : (List (Int))) => ⟨[(6, .sl 1)], [(1, some (.arr 1 (List.map Gx.encI t2) true))], 1000⟩) (fun t => t = zt2) ?_ ?_
 ·refine avb ?_
  refine loop_lp (fun (p1 : (List (Int)) × Int) => ⟨[(3, .ptr 1 0 0), (5, .d (D.i t1)), (6, .sl 2), (13, .d (D.i v1.mLength)), (14, .d (D.i p1.2))], [(1, some (.box [.d (D.i v1.mNumber), .d (D.b v1.mDown), .d (D.i v1.mCell), .d (D.i v1.mLength)])), (2, some (.arr 1 (List.map Gx.encI p1.1) true))], 1000⟩) h ?_ ?_
  ·exact weak_by
  intro np1 p1 yp1 h hfp1
  unfold i_cells_L1 at h
  refine avb ?_
  refine brb h ?_ ?_<;>intro _ h
  ·refine app_sel h (app_ok (by (first|rfl|simp [sub])) (by (first|rfl|simp [sub])) (by decide)) (by (intro h; cases h)) (fun h => ?_)
   refine avb ?_
   exact lbk hfp1 h
  ·have h := finr hfp1 h
   refine cut_at (p1.1) (some_in h) ?_
   exact weak_by
 rintro t2 rfl
 have h : _ = some _ := gt2
 refine avb ?_
 cases h;exact eq_by

theorem i_layout_ok (N : Nat) (v0 : Gx.Grid) {r : (List (List (Int)))} (h : i_layout N v0 = some r) : Pure Tryz.prog 105 [DV.agg (Gx.Grid.enc v0)] (DV.one (D.sl 1 (List.map (Gx.encL 1 Gx.encI) r))) := by
 refine pure_of_walk Tryz.tok Tryz.mixed Tryz.func105 (by kernel_rfl) fun W => ?_
 unfold i_layout at h
 refine ab0 ?_
 refine W.r_seq ?_
 refine ab0 ?_
 refine W.r_seq ?_
 refine ab0 ?_
 obtain ⟨zt4, h, gt4⟩ := bnd_some h
 refine W.r_cut (fun (t4 : (List (List (Int)))) => ⟨[(3, .sl 1)], [(1, some (.arr 1 (List.map (Gx.encL 1 Gx.encI) t4) true))], 1000⟩) (fun t => t = zt4) ?_ ?_
 ·refine avb ?_
  refine plb ?_;refine call_sel (E := fun (x : (List (Gx.Slot))) => DV.one (D.sl 4 (List.map Gx.Slot.enc x))) h (fun x1 h1 => (i_SlotsOf_ok N v0 h1)) (fun x1 hx1 h => ?_)
  refine avb ?_
  refine lns (x1.length : Int) ?_
  refine avb ?_
  refine loop_lp (fun (p1 : (List (List (Int))) × Int) => ⟨[(1, .ptr 1 0 0), (3, .sl 2), (7, .sl 3), (8, .d (D.i (x1.length : Int))), (9, .d (D.i p1.2))], [(1, some (.box [.d (D.i v0.mRows), .d (D.i v0.mCols), .d (D.s v0.mCells)])), (2, some (.arr 1 (List.map (Gx.encL 1 Gx.encI) p1.1) true)), (3, some (.arr 4 (List.map Gx.Slot.enc x1) true))], 1000⟩) h ?_ ?_
  ·exact weak_by
  intro np1 p1 yp1 h hfp1
  unfold i_layout_L1 at h
  refine avb ?_
  refine brb h ?_ ?_<;>intro _ h
  ·refine idxp_sel h (fun x2 hx2 h => ?_)
   refine avb ?_
   refine ldp_sel hx2 ?_
   refine avb ?_
   refine plb ?_;refine call_sel (E := fun (x : (List (Int))) => DV.one (D.sl 1 (List.map Gx.encI x))) h (fun x3 h1 => (i_cells_ok N v0 x2 h1)) (fun x3 hx3 h => ?_)
   refine avb ?_
   refine app_sel h (app_ok (by (first|rfl|simp [sub])) (by (first|rfl|simp [sub])) (by decide)) (by (intro h; cases h)) (fun h => ?_)
   refine avb ?_
   exact lbk hfp1 h
  ·have h := finr hfp1 h
   refine cut_at (p1.1) (some_in h) ?_
   exact weak_by
 rintro t4 rfl
 have h : _ = some _ := gt4
 refine avb ?_
 cases h;exact eq_by

theorem g_slices_Index_Sint_int_ok (N : Nat) (v0 : List (Int)) (v1 : Int) {r : Int} (h : g_slices_Index_Sint_int N v0 v1 = some r) : Pure Tryz.prog 231 [DV.one (D.sl 1 (List.map Gx.encI v0)), DV.one (D.i v1)] (DV.one (D.i r)) := by
 refine pure_of_walk Tryz.tok Tryz.mixed Tryz.func231 (by kernel_rfl) fun W => ?_
 unfold g_slices_Index_Sint_int at h
 refine ab0 ?_
 refine W.r_seq ?_
 refine ab0 ?_
 obtain ⟨zt2, h, gt2⟩ := cutb_some h
 refine W.r_cut (fun (t2 : Unit) => ⟨[], [], 1000⟩) (fun t => .nx t = zt2) ?_ ?_
 ·refine avb ?_
  refine lns (v0.length : Int) ?_
  refine avb ?_
  refine loop_lp (fun (p1 : Int) => ⟨[(0, .d (D.sl 1 (List.map Gx.encI v0))), (1, .d (D.i v1)), (7, .d (D.i (v0.length : Int))), (8, .d (D.i p1))], [], 1000⟩) h ?_ ?_
  ·exact weak_by
  intro np1 p1 yp1 h hfp1
  unfold g_slices_Index_Sint_int_L1 at h
  refine avb ?_
  refine brb h ?_ ?_<;>intro _ h
  ·refine idx_sel h (fun x1 hx1 h => ?_)
   refine avb ?_
   refine brb h ?_ ?_<;>intro _ h
   ·have h := finr hfp1 h
    have h := cutr gt2 h
    cases h;exact eq_by
   ·exact lbk hfp1 h
  ·have h := finr hfp1 h
   refine cut_at (()) (some_in h) ?_
   exact weak_by
 rintro t2 rfl
 have h : _ = some _ := gt2
 refine avb ?_
 cases h;exact eq_by

theorem g_slices_Contains_Sint_int_ok (N : Nat) (v0 : List (Int)) (v1 : Int) {r : Bool} (h : g_slices_Contains_Sint_int N v0 v1 = some r) : Pure Tryz.prog 226 [DV.one (D.sl 1 (List.map Gx.encI v0)), DV.one (D.i v1)] (DV.one (D.b r)) := by
 refine pure_of_walk Tryz.tok Tryz.mixed Tryz.func226 (by kernel_rfl) fun W => ?_
 unfold g_slices_Contains_Sint_int at h
 refine avb ?_
 refine plb ?_;refine call_sel (E := fun (x : Int) => DV.one (D.i x)) h (fun x1 h1 => (g_slices_Index_Sint_int_ok N v0 v1 h1)) (fun x1 hx1 h => ?_)
 refine avb ?_
 cases h;exact eq_by

theorem i_SlotsAt_ok (N : Nat) (v0 : Gx.Grid) (v1 : Int) {r : (List (Int))} (h : i_SlotsAt N v0 v1 = some r) : Pure Tryz.prog 221 [DV.agg (Gx.Grid.enc v0), DV.one (D.i v1)] (DV.one (D.sl 1 (List.map Gx.encI r))) := by
 refine pure_of_walk Tryz.tok Tryz.mixed Tryz.func221 (by kernel_rfl) fun W => ?_
 unfold i_SlotsAt at h
 refine ab0 ?_
 refine W.r_seq ?_
 refine ab0 ?_
 refine W.r_seq ?_
 refine ab0 ?_
 obtain ⟨zt4, h, gt4⟩ := bnd_some h
 refine W.r_cut (fun (t4 : (List (Int))) => ⟨[(5, .sl 1)], [(1, some (.arr 1 (List.map Gx.encI t4) true))], 1000⟩) (fun t => t = zt4) ?_ ?_
 ·refine avb ?_
  refine plb ?_;refine call_sel (E := fun (x : (List (List (Int)))) => DV.one (D.sl 1 (List.map (Gx.encL 1 Gx.encI) x))) h (fun x1 h1 => (i_layout_ok N v0 h1)) (fun x1 hx1 h => ?_)
  refine avb ?_
  refine lns (x1.length : Int) ?_
  refine avb ?_
  refine loop_lp (fun (p1 : (List (Int)) × Int) => ⟨[(1, .d (D.i v1)), (5, .sl 1), (9, .sl 2), (10, .d (D.i (x1.length : Int))), (11, .d (D.i p1.2))], [(1, some (.arr 1 (List.map Gx.encI p1.1) true)), (2, some (.arr 1 (List.map (Gx.encL 1 Gx.encI) x1) true))], 1000⟩) h ?_ ?_
  ·exact weak_by
  intro np1 p1 yp1 h hfp1
  unfold i_SlotsAt_L1 at h
  refine avb ?_
  refine brb h ?_ ?_<;>intro _ h
  ·refine idxp_sel h (fun x2 hx2 h => ?_)
   refine avb ?_
   refine ldp_sel hx2 ?_
   refine avb ?_
   refine plb ?_;refine call_sel (E := fun (x : Bool) => DV.one (D.b x)) h (fun x3 h1 => (g_slices_Contains_Sint_int_ok N x2 v1 h1)) (fun x3 hx3 h => ?_)
   refine avb ?_
   refine brb h ?_ ?_<;>intro _ h
   ·refine app_sel h (app_ok (by (first|rfl|simp [sub])) (by (first|rfl|simp [sub])) (by decide)) (by (intro h; cases h)) (fun h => ?_)
    refine avb ?_
    exact lbk hfp1 h
   ·exact lbk hfp1 h
  ·have h := finr hfp1 h
   refine cut_at (p1.1) (some_in h) ?_
   exact weak_by
 rintro t4 rfl
 have h : _ = some _ := gt4
 refine avb ?_
 cases h;exact eq_by

theorem i_IsChecked_ok (N : Nat) (v0 : Gx.Grid) (v1 : Int) {r : Bool} (h : i_IsChecked N v0 v1 = some r) : Pure Tryz.prog 205 [DV.agg (Gx.Grid.enc v0), DV.one (D.i v1)] (DV.one (D.b r)) := by
 refine pure_of_walk Tryz.tok Tryz.mixed Tryz.func205 (by kernel_rfl) fun W => ?_
 unfold i_IsChecked at h
 refine avb ?_
 refine plb ?_;refine call_sel (E := fun (x : (List (Int))) => DV.one (D.sl 1 (List.map Gx.encI x))) h (fun x1 h1 => (i_SlotsAt_ok N v0 v1 h1)) (fun x1 hx1 h => ?_)
 refine avb ?_
 refine lns (x1.length : Int) ?_
 refine avb ?_
 cases h;exact eq_by

theorem i_UncheckedIn_ok (N : Nat) (v0 : Gx.Grid) (v1 : Int) {r : Int} (h : i_UncheckedIn N v0 v1 = some r) : Pure Tryz.prog 181 [DV.agg (Gx.Grid.enc v0), DV.one (D.i v1)] (DV.one (D.i r)) := by
 refine pure_of_walk Tryz.tok Tryz.mixed Tryz.func181 (by kernel_rfl) fun W => ?_
 unfold i_UncheckedIn at h
 refine avb ?_
 refine plb ?_;refine call_sel (E := fun (x : (List (List (Int)))) => DV.one (D.sl 1 (List.map (Gx.encL 1 Gx.encI) x))) h (fun x1 h1 => (i_layout_ok N v0 h1)) (fun x1 hx1 h => ?_)
 refine avb ?_
 refine lns (x1.length : Int) ?_
 refine avb ?_
 refine plb ?_;refine call_sel (E := fun (x : Bool) => DV.one (D.b x)) h (fun x2 h1 => (i_at_ok N v1 (x1.length : Int) h1)) (fun x2 hx2 h => ?_)
 refine avb ?_
 refine br_sel h (fun _ h => ?_) (fun _ h => ?_)
 ·refine avb ?_
  cases h;exact eq_by
 ·refine ab0 ?_
  refine W.r_seq ?_
  refine ab0 ?_
  obtain ⟨zt6, h, gt6⟩ := bnd_some h
  refine W.r_cut (fun (t6 : Int) => ⟨[(6, .d (D.i t6))], [], 1000⟩) (fun t => t = zt6) ?_ ?_
  ·refine avb ?_
   refine idxp_sel h (fun x3 hx3 h => ?_)
   refine avb ?_
   refine ldp_sel hx3 ?_
   refine avb ?_
   refine lns (x3.length : Int) ?_
   refine avb ?_
   refine loop_lp (fun (p1 : Int × Int) => ⟨[(2, .ptr 1 0 0), (6, .d (D.i p1.1)), (19, .d (D.sl 1 (List.map Gx.encI x3))), (20, .d (D.i (x3.length : Int))), (21, .d (D.i p1.2))], [(1, some (.box [.d (D.i v0.mRows), .d (D.i v0.mCols), .d (D.s v0.mCells)]))], 1000⟩) h ?_ ?_
   ·exact weak_by
   intro np1 p1 yp1 h hfp1
   unfold i_UncheckedIn_L1 at h
   refine avb ?_
   refine brb h ?_ ?_<;>intro _ h
   ·refine idx_sel h (fun x4 hx4 h => ?_)
    refine avb ?_
    refine plb ?_;refine call_sel (E := fun (x : Bool) => DV.one (D.b x)) h (fun x5 h1 => (i_IsChecked_ok N v0 x4 h1)) (fun x5 hx5 h => ?_)
    refine avb ?_
    refine brb h ?_ ?_<;>intro _ h
    ·exact lbk hfp1 h
    ·exact lbk hfp1 h
   ·have h := finr hfp1 h
    refine cut_at (p1.1) (some_in h) ?_
    exact weak_by
  rintro t6 rfl
  have h : _ = some _ := gt6
  refine avb ?_
  cases h;exact eq_by

theorem i_alone_ok (N : Nat) (v0 : Gx.Grid) (v1 : List UInt8) {r : Bool} (h : i_alone N v0 v1 = some r) : Pure Tryz.prog 182 [DV.agg (Gx.Grid.enc v0), DV.one (D.s v1)] (DV.one (D.b r)) := by
 refine pure_of_walk Tryz.tok Tryz.mixed Tryz.func182 (by kernel_rfl) fun W => ?_
 unfold i_alone at h
 refine ab0 ?_
 refine W.r_seq ?_
 refine ab0 ?_
 refine W.r_seq ?_
 refine ab0 ?_
 obtain ⟨zt5, h, gt5⟩ := bnd_some h
 refine W.r_cut (fun (t5 : (List (Int × Int))) => ⟨[(1, .d (D.s v1)), (2, .ptr 1 0 0), (5, .sl 2)], [(1, some (.box [.d (D.i v0.mRows), .d (D.i v0.mCols), .d (D.s v0.mCells)])), (2, some (.mp t5))], 1000⟩) (fun t => t = zt5) ?_ ?_
 ·refine avb ?_
  refine plb ?_;refine call_sel (E := fun (x : (List (List (Int)))) => DV.one (D.sl 1 (List.map (Gx.encL 1 Gx.encI) x))) h (fun x1 h1 => (i_layout_ok N v0 h1)) (fun x1 hx1 h => ?_)
  refine avb ?_
  refine lns (x1.length : Int) ?_
  refine avb ?_
  refine loop_lp (fun (p1 : (List (Int × Int)) × Int) => ⟨[(1, .d (D.s v1)), (2, .ptr 1 0 0), (5, .sl 2), (13, .sl 3), (14, .d (D.i (x1.length : Int))), (15, .d (D.i p1.2))], [(1, some (.box [.d (D.i v0.mRows), .d (D.i v0.mCols), .d (D.s v0.mCells)])), (2, some (.mp p1.1)), (3, some (.arr 1 (List.map (Gx.encL 1 Gx.encI) x1) true))], 1000⟩) h ?_ ?_
  ·exact weak_by
  intro np1 p1 yp1 h hfp1
  unfold i_alone_L1 at h
  refine avb ?_
  refine br_sel h (fun _ h => ?_) (fun _ h => ?_)
  ·refine ab0 ?_
   obtain ⟨zt4, h, gt4⟩ := bnd_some h
   refine W.r_cut (fun (t4 : (List (Int × Int))) => ⟨[(1, .d (D.s v1)), (2, .ptr 1 0 0), (5, .sl 2), (13, .sl 3), (14, .d (D.i (x1.length : Int))), (15, .d (D.i p1.2))], [(1, some (.box [.d (D.i v0.mRows), .d (D.i v0.mCols), .d (D.s v0.mCells)])), (2, some (.mp t4)), (3, some (.arr 1 (List.map (Gx.encL 1 Gx.encI) x1) true))], 1000⟩) (fun t => t = zt4) ?_ ?_
   ·refine avb ?_
    refine idxp_sel h (fun x2 hx2 h => ?_)
    refine avb ?_
    refine ldp_sel hx2 ?_
    refine avb ?_
    refine lns (x2.length : Int) ?_
    refine avb ?_
    refine loop_lp (fun (p2 : (List (Int × Int)) × Int) => ⟨[(1, .d (D.s v1)), (2, .ptr 1 0 0), (5, .sl 2), (13, .sl 3), (14, .d (D.i (x1.length : Int))), (15, .d (D.i p1.2)), (19, .d (D.sl 1 (List.map Gx.encI x2))), (20, .d (D.i (x2.length : Int))), (21, .d (D.i p2.2))], [(1, some (.box [.d (D.i v0.mRows), .d (D.i v0.mCols), .d (D.s v0.mCells)])), (2, some (.mp p2.1)), (3, some (.arr 1 (List.map (Gx.encL 1 Gx.encI) x1) true))], 1000⟩) h ?_ ?_
    ·exact weak_by
    intro np2 p2 yp2 h hfp2
    unfold i_alone_L2 at h
    refine avb ?_
    refine brb h ?_ ?_<;>intro _ h
    ·refine idx_sel h (fun x3 hx3 h => ?_)
     refine avb ?_
     exact lbk hfp2 h
    ·have h := finr hfp2 h
     refine cut_at (p2.1) (some_in h) ?_
     exact weak_by
   rintro t4 rfl
   have h : _ = some _ := gt4
   refine avb ?_
   exact lbk hfp1 h
  ·refine avb ?_
   have h := finr hfp1 h
   refine cut_at (p1.1) (some_in h) ?_
   exact weak_by
 rintro t5 rfl
 have h : _ = some _ := gt5
 refine ab0 ?_
 obtain ⟨zt7, h, gt7⟩ := cutb_some h
 refine W.r_cut (fun (t7 : Unit) => ⟨[], [], 1000⟩) (fun t => .nx t = zt7) ?_ ?_
 ·refine avb ?_
  refine lns (v0.mCells.length : Int) ?_
  refine avb ?_
  refine loop_lp (fun (p3 : Int) => ⟨[(1, .d (D.s v1)), (2, .ptr 1 0 0), (5, .sl 2), (31, .d (D.i (v0.mCells.length : Int))), (32, .d (D.i p3))], [(1, some (.box [.d (D.i v0.mRows), .d (D.i v0.mCols), .d (D.s v0.mCells)])), (2, some (.mp t5))], 1000⟩) h ?_ ?_
  ·exact weak_by
  intro np3 p3 yp3 h hfp3
  unfold i_alone_L3 at h
  refine avb ?_
  refine brb h ?_ ?_<;>intro _ h
  ·refine chk_sel h (fun q => q) (fun h => ?_)
   refine avb ?_
   refine brb h ?_ ?_<;>intro _ h
   ·refine brb h ?_ ?_<;>intro _ h
    ·refine chk_sel h (fun q => q) (fun h => ?_)
     refine avb ?_
     refine plb ?_;refine call_sel (E := fun (x : Bool) => DV.one (D.b x)) h (fun x6 h1 => (i_isLetter_ok N (byteI v1 p3) h1)) (fun x6 hx6 h => ?_)
     refine avb ?_
     refine brb h ?_ ?_<;>intro _ h
     ·have h := finr hfp3 h
      have h := cutr gt7 h
      cases h;exact eq_by
     ·exact lbk hfp3 h
    ·exact lbk hfp3 h
   ·exact lbk hfp3 h
  ·have h := finr hfp3 h
   refine cut_at (()) (some_in h) ?_
   exact weak_by
 rintro t7 rfl
 have h : _ = some _ := gt7
 refine avb ?_
 cases h;exact eq_by

theorem i_FormOf_ok (N : Nat) (v0 : Gx.Grid) {r : Int} (h : i_FormOf N v0 = some r) : Pure Tryz.prog 144 [DV.agg (Gx.Grid.enc v0)] (DV.one (D.i r)) := by
 refine pure_of_walk Tryz.tok Tryz.mixed Tryz.func144 (by kernel_rfl) fun W => ?_
 unfold i_FormOf at h
 refine avb ?_
 refine plb ?_;refine call_sel (E := fun (x : Bool) => DV.one (D.b x)) h (fun x1 h1 => (i_IsGrid_ok N v0 h1)) (fun x1 hx1 h => ?_)
 refine avb ?_
 refine brb h ?_ ?_<;>intro _ h
 ·cases h;exact eq_by
 ·refine plb ?_;refine call_sel (E := fun (x : Bool) => DV.one (D.b x)) h (fun x2 h1 => (i_IsSymmetric_ok N v0 h1)) (fun x2 hx2 h => ?_)
  refine avb ?_
  refine brb h ?_ ?_<;>intro _ h
  ·cases h;exact eq_by
  ·refine plb ?_;refine call_sel (E := fun (x : Bool) => DV.one (D.b x)) h (fun x3 h1 => (i_IsConnected_ok N v0 h1)) (fun x3 hx3 h => ?_)
   refine avb ?_
   refine brb h ?_ ?_<;>intro _ h
   ·cases h;exact eq_by
   ·refine plb ?_;refine call_sel (E := fun (x : (List (Gx.Slot))) => DV.one (D.sl 4 (List.map Gx.Slot.enc x))) h (fun x4 h1 => (i_SlotsOf_ok N v0 h1)) (fun x4 hx4 h => ?_)
    refine ab0 ?_
    obtain ⟨zt6, h, gt6⟩ := cutb_some h
    refine W.r_cut (fun (t6 : Unit) => ⟨[(1, .ptr 1 0 0), (3, .sl 2)], [(1, some (.box [.d (D.i v0.mRows), .d (D.i v0.mCols), .d (D.s v0.mCells)])), (2, some (.arr 4 (List.map Gx.Slot.enc x4) true))], 1000⟩) (fun t => .nx t = zt6) ?_ ?_
    ·refine avb ?_
     refine lns (x4.length : Int) ?_
     refine avb ?_
     refine loop_lp (fun (p1 : Int) => ⟨[(1, .ptr 1 0 0), (3, .sl 2), (22, .sl 2), (23, .d (D.i (x4.length : Int))), (24, .d (D.i p1))], [(1, some (.box [.d (D.i v0.mRows), .d (D.i v0.mCols), .d (D.s v0.mCells)])), (2, some (.arr 4 (List.map Gx.Slot.enc x4) true))], 1000⟩) h ?_ ?_
     ·exact weak_by
     intro np1 p1 yp1 h hfp1
     unfold i_FormOf_L1 at h
     refine avb ?_
     refine brb h ?_ ?_<;>intro _ h
     ·refine idxp_sel h (fun x5 hx5 h => ?_)
      refine avb ?_
      refine ldp_sel hx5 ?_
      refine avb ?_
      refine brb h ?_ ?_<;>intro _ h
      ·have h := finr hfp1 h
       have h := cutr gt6 h
       cases h;exact eq_by
      ·exact lbk hfp1 h
     ·have h := finr hfp1 h
      refine cut_at (()) (some_in h) ?_
      exact weak_by
    rintro t6 rfl
    have h : _ = some _ := gt6
    refine ab0 ?_
    obtain ⟨zt9, h, gt9⟩ := cutb_some h
    refine W.r_cut (fun (t9 : Unit) => ⟨[(1, .ptr 1 0 0)], [(1, some (.box [.d (D.i v0.mRows), .d (D.i v0.mCols), .d (D.s v0.mCells)]))], 1000⟩) (fun t => .nx t = zt9) ?_ ?_
    ·refine avb ?_
     refine lns (x4.length : Int) ?_
     refine avb ?_
     refine loop_lp (fun (p2 : Int) => ⟨[(1, .ptr 1 0 0), (32, .sl 2), (33, .d (D.i (x4.length : Int))), (34, .d (D.i p2))], [(1, some (.box [.d (D.i v0.mRows), .d (D.i v0.mCols), .d (D.s v0.mCells)])), (2, some (.arr 4 (List.map Gx.Slot.enc x4) true))], 1000⟩) h ?_ ?_
     ·exact weak_by
     intro np2 p2 yp2 h hfp2
     unfold i_FormOf_L2 at h
     refine avb ?_
     refine brb h ?_ ?_<;>intro _ h
     ·refine idxp_sel h (fun x7 hx7 h => ?_)
      refine avb ?_
      refine ldp_sel hx7 ?_
      refine avb ?_
      refine plb ?_;refine call_sel (E := fun (x : Int) => DV.one (D.i x)) h (fun x8 h1 => (i_UncheckedIn_ok N v0 p2 h1)) (fun x8 hx8 h => ?_)
      refine avb ?_
      refine brb h ?_ ?_<;>intro _ h
      ·have h := finr hfp2 h
       have h := cutr gt9 h
       cases h;exact eq_by
      ·exact lbk hfp2 h
     ·have h := finr hfp2 h
      refine cut_at (()) (some_in h) ?_
      exact weak_by
    rintro t9 rfl
    have h : _ = some _ := gt9
    refine avb ?_
    refine plb ?_;refine call_sel (E := fun (x : Bool) => DV.one (D.b x)) h (fun x10 h1 => (i_alone_ok N v0 v0.mCells h1)) (fun x10 hx10 h => ?_)
    refine avb ?_
    refine brb h ?_ ?_<;>intro _ h
    ·cases h;exact eq_by
    ·cases h;exact eq_by

theorem i_IsFill_ok (N : Nat) (v0 : Gx.Grid) (v1 : List UInt8) {r : Bool} (h : i_IsFill N v0 v1 = some r) : Pure Tryz.prog 145 [DV.agg (Gx.Grid.enc v0), DV.one (D.s v1)] (DV.one (D.b r)) := by
 refine pure_of_walk Tryz.tok Tryz.mixed Tryz.func145 (by kernel_rfl) fun W => ?_
 unfold i_IsFill at h
 refine avb ?_
 refine plb ?_;refine call_sel (E := fun (x : Bool) => DV.one (D.b x)) h (fun x1 h1 => (i_IsGrid_ok N v0 h1)) (fun x1 hx1 h => ?_)
 refine avb ?_
 refine brb h ?_ ?_<;>intro _ h
 ·cases h;exact eq_by
 ·refine lns (v1.length : Int) ?_
  refine avb ?_
  refine lns (v0.mCells.length : Int) ?_
  refine avb ?_
  refine br_sel h (fun _ h => ?_) (fun _ h => ?_)
  ·refine avb ?_
   cases h;exact eq_by
  ·refine ab0 ?_
   obtain ⟨zt3, h, gt3⟩ := cutb_some h
   refine W.r_cut (fun (t3 : Unit) => ⟨[], [], 1000⟩) (fun t => .nx t = zt3) ?_ ?_
   ·refine avb ?_
    refine lns (v1.length : Int) ?_
    refine avb ?_
    refine loop_lp (fun (p1 : Int) => ⟨[(1, .d (D.s v1)), (2, .ptr 1 0 0), (18, .d (D.i (v1.length : Int))), (19, .d (D.i p1))], [(1, some (.box [.d (D.i v0.mRows), .d (D.i v0.mCols), .d (D.s v0.mCells)]))], 1000⟩) h ?_ ?_
    ·exact weak_by
    intro np1 p1 yp1 h hfp1
    unfold i_IsFill_L1 at h
    refine avb ?_
    refine brb h ?_ ?_<;>intro _ h
    ·refine chk_sel h (fun q => q) (fun h => ?_)
     refine avb ?_
     refine chk_sel h (fun q => q) (fun h => ?_)
     refine avb ?_
     refine brb h ?_ ?_<;>intro _ h
     ·have h := finr hfp1 h
      have h := cutr gt3 h
      cases h;exact eq_by
     ·refine chk_sel h (fun q => q) (fun h => ?_)
      refine avb ?_
      refine brb h ?_ ?_<;>intro _ h
      ·refine chk_sel h (fun q => q) (fun h => ?_)
       refine avb ?_
       refine brb h ?_ ?_<;>intro _ h
       ·refine chk_sel h (fun q => q) (fun h => ?_)
        refine avb ?_
        refine plb ?_;refine call_sel (E := fun (x : Bool) => DV.one (D.b x)) h (fun x2 h1 => (i_isLetter_ok N (byteI v1 p1) h1)) (fun x2 hx2 h => ?_)
        refine avb ?_
        refine brb h ?_ ?_<;>intro _ h
        ·have h := finr hfp1 h
         have h := cutr gt3 h
         cases h;exact eq_by
        ·exact lbk hfp1 h
       ·exact lbk hfp1 h
      ·exact lbk hfp1 h
    ·have h := finr hfp1 h
     refine cut_at (()) (some_in h) ?_
     exact weak_by
   rintro t3 rfl
   have h : _ = some _ := gt3
   refine avb ?_
   cases h;exact eq_by

theorem i_needsWord_ok (N : Nat) (v0 : Int) {r : Bool} (h : i_needsWord N v0 = some r) : Pure Tryz.prog 206 [DV.one (D.i v0)] (DV.one (D.b r)) := by
 refine pure_of_walk Tryz.tok Tryz.mixed Tryz.func206 (by kernel_rfl) fun W => ?_
 unfold i_needsWord at h
 refine avb ?_
 refine brb h ?_ ?_<;>intro _ h
 ·cases h;exact eq_by
 ·cases h;exact eq_by

theorem i_isPair_ok (N : Nat) (v0 : Int) {r : Bool} (h : i_isPair N v0 = some r) : Pure Tryz.prog 207 [DV.one (D.i v0)] (DV.one (D.b r)) := by
 refine pure_of_walk Tryz.tok Tryz.mixed Tryz.func207 (by kernel_rfl) fun W => ?_
 unfold i_isPair at h
 refine avb ?_
 refine brb h ?_ ?_<;>intro _ h
 ·cases h;exact eq_by
 ·cases h;exact eq_by

theorem i_IsPlay_ok (N : Nat) (v0 : List (Gx.Step)) {r : Bool} (h : i_IsPlay N v0 = some r) : Pure Tryz.prog 184 [DV.one (D.sl 4 (List.map Gx.Step.enc v0))] (DV.one (D.b r)) := by
 refine pure_of_walk Tryz.tok Tryz.mixed Tryz.func184 (by kernel_rfl) fun W => ?_
 unfold i_IsPlay at h
 refine avb ?_
 refine lns (v0.length : Int) ?_
 refine avb ?_
 refine plb ?_;refine call_sel (E := fun (x : Bool) => DV.one (D.b x)) h (fun x1 h1 => (i_InRange_ok N (v0.length : Int) 1 9 h1)) (fun x1 hx1 h => ?_)
 refine avb ?_
 refine br_sel h (fun _ h => ?_) (fun _ h => ?_)
 ·refine avb ?_
  cases h;exact eq_by
 ·refine ab0 ?_
  obtain ⟨zt13, h, gt13⟩ := cutb_some h
  refine W.r_cut (fun (t13 : Unit) => ⟨[], [], 1000⟩) (fun t => .nx t = zt13) ?_ ?_
  ·refine avb ?_
   refine lns (v0.length : Int) ?_
   refine avb ?_
   refine loop_lp (fun (p1 : Int) => ⟨[(0, .d (D.sl 4 (List.map Gx.Step.enc v0))), (9, .d (D.sl 4 (List.map Gx.Step.enc v0))), (10, .d (D.i (v0.length : Int))), (11, .d (D.i p1))], [], 1000⟩) h ?_ ?_
   ·exact weak_by
   intro np1 p1 yp1 h hfp1
   unfold i_IsPlay_L1 at h
   refine avb ?_
   refine brb h ?_ ?_<;>intro _ h
   ·refine idx_sel h (fun x2 hx2 h => ?_)
    refine avb ?_
    refine plb ?_;refine call_sel (E := fun (x : Bool) => DV.one (D.b x)) h (fun x3 h1 => (i_InRange_ok N x2.mKind 1 9 h1)) (fun x3 hx3 h => ?_)
    refine avb ?_
    refine brb h ?_ ?_<;>intro _ h
    ·have h := finr hfp1 h
     have h := cutr gt13 h
     cases h;exact eq_by
    ·refine br_sel h (fun _ h => ?_) (fun _ h => ?_)
     ·refine avb ?_
      refine plb ?_;refine call_sel (E := fun (x : Bool) => DV.one (D.b x)) h (fun x4 h1 => (i_IsWord_ok N x2.mWord h1)) (fun x4 hx4 h => ?_)
      refine avb ?_
      refine brb h ?_ ?_<;>intro _ h
      ·have h := finr hfp1 h
       have h := cutr gt13 h
       cases h;exact eq_by
      ·refine brb h ?_ ?_<;>intro _ h
       ·have h := finr hfp1 h
        have h := cutr gt13 h
        cases h;exact eq_by
       ·refine brb h ?_ ?_<;>intro _ h
        ·have h := finr hfp1 h
         have h := cutr gt13 h
         cases h;exact eq_by
        ·exact lbk hfp1 h
     ·refine ab0 ?_
      obtain ⟨zt8, h, gt8⟩ := cutb_some h
      refine W.r_cut (fun (t8 : Unit) => ⟨[(0, .d (D.sl 4 (List.map Gx.Step.enc v0))), (3, .d (D.i p1)), (4, .ptr 1 0 0), (9, .d (D.sl 4 (List.map Gx.Step.enc v0))), (10, .d (D.i (v0.length : Int))), (11, .d (D.i p1))], [(1, some (.box [.d (D.i x2.mKind), .d (D.s x2.mWord), .d (D.i x2.mA), .d (D.i x2.mB)]))], 1000⟩) (fun t => .nx t = zt8) ?_ ?_
      ·refine avb ?_
       refine brb h ?_ ?_<;>intro _ h
       ·have h := cutr gt8 h
        have h := finr hfp1 h
        have h := cutr gt13 h
        cases h;exact eq_by
       ·refine plb ?_;refine call_sel (E := fun (x : Bool) => DV.one (D.b x)) h (fun x5 h1 => (i_at_ok N x2.mA p1 h1)) (fun x5 hx5 h => ?_)
        refine avb ?_
        refine brb h ?_ ?_<;>intro _ h
        ·have h := cutr gt8 h
         have h := finr hfp1 h
         have h := cutr gt13 h
         cases h;exact eq_by
        ·refine plb ?_;refine call_sel (E := fun (x : Bool) => DV.one (D.b x)) h (fun x6 h1 => (i_needsWord_ok N x2.mKind h1)) (fun x6 hx6 h => ?_)
         refine avb ?_
         refine brb h ?_ ?_<;>intro _ h
         ·refine idx_sel h (fun x7 hx7 h => ?_)
          refine avb ?_
          refine brb h ?_ ?_<;>intro _ h
          ·have h := cutr gt8 h
           have h := finr hfp1 h
           have h := cutr gt13 h
           cases h;exact eq_by
          ·refine cut_at (()) (some_in h) ?_
           exact weak_by
         ·refine cut_at (()) (some_in h) ?_
          exact weak_by
      rintro t8 rfl
      have h : _ = some _ := gt8
      refine avb ?_
      refine plb ?_;refine call_sel (E := fun (x : Bool) => DV.one (D.b x)) h (fun x9 h1 => (i_isPair_ok N x2.mKind h1)) (fun x9 hx9 h => ?_)
      refine avb ?_
      refine brb h ?_ ?_<;>intro _ h
      ·refine plb ?_;refine call_sel (E := fun (x : Bool) => DV.one (D.b x)) h (fun x10 h1 => (i_at_ok N x2.mB p1 h1)) (fun x10 hx10 h => ?_)
       refine avb ?_
       refine brb h ?_ ?_<;>intro _ h
       ·have h := finr hfp1 h
        have h := cutr gt13 h
        cases h;exact eq_by
       ·refine plb ?_;refine call_sel (E := fun (x : Bool) => DV.one (D.b x)) h (fun x11 h1 => (i_isPair_ok N x2.mKind h1)) (fun x11 hx11 h => ?_)
        refine avb ?_
        refine brb h ?_ ?_<;>intro _ h
        ·refine brb h ?_ ?_<;>intro _ h
         ·have h := finr hfp1 h
          have h := cutr gt13 h
          cases h;exact eq_by
         ·exact lbk hfp1 h
        ·exact lbk hfp1 h
      ·refine plb ?_;refine call_sel (E := fun (x : Bool) => DV.one (D.b x)) h (fun x12 h1 => (i_isPair_ok N x2.mKind h1)) (fun x12 hx12 h => ?_)
       refine avb ?_
       refine brb h ?_ ?_<;>intro _ h
       ·refine brb h ?_ ?_<;>intro _ h
        ·have h := finr hfp1 h
         have h := cutr gt13 h
         cases h;exact eq_by
        ·exact lbk hfp1 h
       ·exact lbk hfp1 h
   ·have h := finr hfp1 h
    refine cut_at (()) (some_in h) ?_
    exact weak_by
  rintro t13 rfl
  have h : _ = some _ := gt13
  refine avb ?_
  cases h;exact eq_by

end Lw
end Go.Proofs
