/- PRINTED BY gen.py (mine): their contracts. -/
import Derived.Test.YtniibgdokfnomaaGreatDoorAvPfStepDesk3
namespace Go.Proofs
open Go Go.Av
set_option maxRecDepth 100000
set_option maxHeartbeats 40000000
set_option linter.unusedVariables false
set_option linter.unusedSimpArgs false
namespace Lw
theorem l_heldCorrectionS_ok (N : Nat) (v0 : List (Gx.Correction)) (v1 : Int) {r : Int} (h : l_heldCorrectionS N v0 v1 = some r) : Pure Tryz.prog 59 [DV.one (D.sl 5 (List.map Gx.Correction.enc v0)), DV.one (D.i v1)] (DV.one (D.i r)) := by
 refine pure_of_walk Tryz.tok Tryz.mixed Tryz.func59 (by kernel_rfl) fun W => ?_
 unfold l_heldCorrectionS at h
 refine ab0 ?_
 refine W.r_seq ?_
 refine ab0 ?_
 obtain ⟨zt7, h, gt7⟩ := cutb_some h
 refine W.r_cut (fun (t7 : Int) => ⟨[(1, .d (D.i t7))], [], 1000⟩) (fun t => .nx t = zt7) ?_ ?_
 ·refine avb ?_
  refine loop_lp (fun (p1 : Int × Int) => ⟨[(0, .d (D.sl 5 (List.map Gx.Correction.enc v0))), (1, .d (D.i p1.1)), (5, .d (D.i p1.2))], [], 1000⟩) h ?_ ?_
  ·exact weak_by
  intro np1 p1 yp1 h hfp1
  unfold l_heldCorrectionS_L1 at h
  refine avb ?_
  refine lns (v0.length : Int) ?_
  refine avb ?_
  refine brb h ?_ ?_<;>intro _ h
  ·refine idx_sel h (fun x1 hx1 h => ?_)
   refine avb ?_
   refine brb h ?_ ?_<;>intro _ h
   ·have h := finr hfp1 h
    have h := cutr gt7 h
    cases h;exact eq_by
   ·refine idx_sel h (fun x2 hx2 h => ?_)
    refine avb ?_
    refine brb h ?_ ?_<;>intro _ h
    ·have h := finr hfp1 h
     have h := cutr gt7 h
     cases h;exact eq_by
    ·refine idx_sel h (fun x3 hx3 h => ?_)
     refine avb ?_
     refine brb h ?_ ?_<;>intro _ h
     ·have h := finr hfp1 h
      have h := cutr gt7 h
      cases h;exact eq_by
     ·refine idx_sel h (fun x4 hx4 h => ?_)
      refine avb ?_
      refine plb ?_;refine call_sel (E := fun (x : Int) => DV.one (D.i x)) h (fun x5 h1 => (l_heldStepS_ok N x4.mClue.mPlay (w64 ((w64 ((w64 (p1.1 + 1)) + 1)) + 1)) h1)) (fun x5 hx5 h => ?_)
      refine avb ?_
      refine brb h ?_ ?_<;>intro _ h
      ·have h := finr hfp1 h
       have h := cutr gt7 h
       cases h;exact eq_by
      ·refine idx_sel h (fun x6 hx6 h => ?_)
       refine avb ?_
       refine brb h ?_ ?_<;>intro _ h
       ·have h := finr hfp1 h
        have h := cutr gt7 h
        cases h;exact eq_by
       ·exact lbk hfp1 h
  ·have h := finr hfp1 h
   refine cut_at (p1.1) (some_in h) ?_
   exact weak_by
 rintro t7 rfl
 have h : _ = some _ := gt7
 refine avb ?_
 cases h;exact eq_by

theorem l_heldEntryS_ok (N : Nat) (v0 : List (Gx.Entry)) (v1 : Int) {r : Int} (h : l_heldEntryS N v0 v1 = some r) : Pure Tryz.prog 60 [DV.one (D.sl 4 (List.map Gx.Entry.enc v0)), DV.one (D.i v1)] (DV.one (D.i r)) := by
 refine pure_of_walk Tryz.tok Tryz.mixed Tryz.func60 (by kernel_rfl) fun W => ?_
 unfold l_heldEntryS at h
 refine ab0 ?_
 refine W.r_seq ?_
 refine ab0 ?_
 obtain ⟨zt6, h, gt6⟩ := cutb_some h
 refine W.r_cut (fun (t6 : Int) => ⟨[(1, .d (D.i t6))], [], 1000⟩) (fun t => .nx t = zt6) ?_ ?_
 ·refine avb ?_
  refine loop_lp (fun (p1 : Int × Int) => ⟨[(0, .d (D.sl 4 (List.map Gx.Entry.enc v0))), (1, .d (D.i p1.1)), (5, .d (D.i p1.2))], [], 1000⟩) h ?_ ?_
  ·exact weak_by
  intro np1 p1 yp1 h hfp1
  unfold l_heldEntryS_L1 at h
  refine avb ?_
  refine lns (v0.length : Int) ?_
  refine avb ?_
  refine brb h ?_ ?_<;>intro _ h
  ·refine idx_sel h (fun x1 hx1 h => ?_)
   refine avb ?_
   refine brb h ?_ ?_<;>intro _ h
   ·have h := finr hfp1 h
    have h := cutr gt6 h
    cases h;exact eq_by
   ·refine idx_sel h (fun x2 hx2 h => ?_)
    refine avb ?_
    refine brb h ?_ ?_<;>intro _ h
    ·have h := finr hfp1 h
     have h := cutr gt6 h
     cases h;exact eq_by
    ·refine idx_sel h (fun x3 hx3 h => ?_)
     refine avb ?_
     refine brb h ?_ ?_<;>intro _ h
     ·have h := finr hfp1 h
      have h := cutr gt6 h
      cases h;exact eq_by
     ·refine idx_sel h (fun x4 hx4 h => ?_)
      refine avb ?_
      refine plb ?_;refine call_sel (E := fun (x : (List UInt8)) => DV.one (D.s x)) h (fun x5 h1 => (l_markText_ok N (w64 ((w64 ((w64 (p1.1 + 1)) + 1)) + 1)) h1)) (fun x5 hx5 h => ?_)
      refine avb ?_
      refine brb h ?_ ?_<;>intro _ h
      ·have h := finr hfp1 h
       have h := cutr gt6 h
       cases h;exact eq_by
      ·exact lbk hfp1 h
  ·have h := finr hfp1 h
   refine cut_at (p1.1) (some_in h) ?_
   exact weak_by
 rintro t6 rfl
 have h : _ = some _ := gt6
 refine avb ?_
 cases h;exact eq_by

theorem l_heldHouse_ok (N : Nat) (v0 : Gx.House) (v1 : Int) {r : Int} (h : l_heldHouse N v0 v1 = some r) : Pure Tryz.prog 15 [DV.agg (Gx.House.enc v0), DV.one (D.i v1)] (DV.one (D.i r)) := by
 refine pure_of_walk Tryz.tok Tryz.mixed Tryz.func15 (by kernel_rfl) fun W => ?_
 unfold l_heldHouse at h
 refine avb ?_
 refine plb ?_;refine call_sel (E := fun (x : Int) => DV.one (D.i x)) h (fun x1 h1 => (l_heldListedS_ok N v0.mList v1 h1)) (fun x1 hx1 h => ?_)
 refine avb ?_
 refine brb h ?_ ?_<;>intro _ h
 ·cases h;exact eq_by
 ·refine plb ?_;refine call_sel (E := fun (x : Int) => DV.one (D.i x)) h (fun x2 h1 => (l_heldMeaningS_ok N v0.mDict x1 h1)) (fun x2 hx2 h => ?_)
  refine avb ?_
  refine brb h ?_ ?_<;>intro _ h
  ·cases h;exact eq_by
  ·refine plb ?_;refine call_sel (E := fun (x : Int) => DV.one (D.i x)) h (fun x3 h1 => (l_heldDraft_ok N v0.mDesk x2 h1)) (fun x3 hx3 h => ?_)
   refine avb ?_
   refine brb h ?_ ?_<;>intro _ h
   ·cases h;exact eq_by
   ·refine plb ?_;refine call_sel (E := fun (x : Int) => DV.one (D.i x)) h (fun x4 h1 => (l_heldIssueS_ok N v0.mIssues x3 h1)) (fun x4 hx4 h => ?_)
    refine avb ?_
    refine brb h ?_ ?_<;>intro _ h
    ·cases h;exact eq_by
    ·refine plb ?_;refine call_sel (E := fun (x : Int) => DV.one (D.i x)) h (fun x5 h1 => (l_heldUsedS_ok N v0.mUses x4 h1)) (fun x5 hx5 h => ?_)
     refine avb ?_
     refine brb h ?_ ?_<;>intro _ h
     ·cases h;exact eq_by
     ·refine plb ?_;refine call_sel (E := fun (x : Int) => DV.one (D.i x)) h (fun x6 h1 => (l_heldCorrectionS_ok N v0.mCorrections x5 h1)) (fun x6 hx6 h => ?_)
      refine avb ?_
      refine brb h ?_ ?_<;>intro _ h
      ·cases h;exact eq_by
      ·refine plb ?_;refine call_sel (E := fun (x : Int) => DV.one (D.i x)) h (fun x7 h1 => (l_heldEntryS_ok N v0.mEntries x6 h1)) (fun x7 hx7 h => ?_)
       refine avb ?_
       refine brb h ?_ ?_<;>intro _ h
       ·cases h;exact eq_by
       ·cases h;exact eq_by

theorem l_FnExactStepDesk_ok (N : Nat) (v0 : Gx.House) (v1 : Gx.Grid) {r : Bool} (h : l_FnExactStepDesk N v0 v1 = some r) : Pure Tryz.prog 4 [DV.agg (Gx.House.enc v0), DV.agg (Gx.Grid.enc v1)] (DV.one (D.b r)) := by
 refine pure_of_walk Tryz.tok Tryz.mixed Tryz.func4 (by kernel_rfl) fun W => ?_
 unfold l_FnExactStepDesk at h
 refine avb ?_
 refine pdb ?_;refine call_sel (E := fun (x : Int) => DV.one (D.i x)) h (fun x1 h1 => (l_szHouse_ok N v0 1048576 h1)) (fun x1 hx1 h => ?_)
 refine avb ?_
 refine brb h ?_ ?_<;>intro _ h
 ·cases h;exact eq_by
 ·refine pdb ?_;refine call_sel (E := fun (x : Int) => DV.one (D.i x)) h (fun x2 h1 => (l_szGrid_ok N v1 x1 h1)) (fun x2 hx2 h => ?_)
  refine avb ?_
  refine brb h ?_ ?_<;>intro _ h
  ·cases h;exact eq_by
  ·refine pdb ?_;refine call_sel (E := fun (x : Gx.House) => DV.agg (Gx.House.enc x)) h (fun x3 h1 => (l_toHouse_ok N v0 h1)) (fun x3 hx3 h => ?_)
   refine avb ?_
   refine pdb ?_;refine call_sel (E := fun (x : Gx.Grid) => DV.agg (Gx.Grid.enc x)) h (fun x4 h1 => (l_toGrid_ok N v1 h1)) (fun x4 hx4 h => ?_)
   refine avb ?_
   refine pdb ?_;refine call_sel (E := fun (x : Gx.House × Bool) => DV.tup [DV.agg (Gx.House.enc x.1), DV.one (D.b x.2)]) h (fun x5 h1 => (s_StepDesk_ok N x3 x4 h1)) (fun x5 hx5 h => ?_)
   refine avb ?_
   refine pdb ?_;refine call_sel (E := fun (x : Gx.House) => DV.agg (Gx.House.enc x)) h (fun x6 h1 => (l_toHouse_ok N v0 h1)) (fun x6 hx6 h => ?_)
   refine avb ?_
   refine pdb ?_;refine call_sel (E := fun (x : Gx.Grid) => DV.agg (Gx.Grid.enc x)) h (fun x7 h1 => (l_toGrid_ok N v1 h1)) (fun x7 hx7 h => ?_)
   refine avb ?_
   refine pdb ?_;refine call_sel (E := fun (x : Gx.House × Bool) => DV.tup [DV.agg (Gx.House.enc x.1), DV.one (D.b x.2)]) h (fun x8 h1 => (i_StepDesk_ok N x6 x7 h1)) (fun x8 hx8 h => ?_)
   refine avb ?_
   refine pdb ?_;refine call_sel (E := fun (x : Bool) => DV.one (D.b x)) h (fun x9 h1 => (l_eqHouse_ok N x8.1 x5.1 h1)) (fun x9 hx9 h => ?_)
   refine avb ?_
   refine brb h ?_ ?_<;>intro _ h
   ·cases h;exact eq_by
   ·refine brb h ?_ ?_<;>intro _ h
    ·cases h;exact eq_by
    ·refine pdb ?_;refine call_sel (E := fun (x : Gx.House) => DV.agg (Gx.House.enc x)) h (fun x10 h1 => (l_toHouse_ok N v0 h1)) (fun x10 hx10 h => ?_)
     refine avb ?_
     refine pdb ?_;refine call_sel (E := fun (x : Bool) => DV.one (D.b x)) h (fun x11 h1 => (l_eqHouse_ok N x6 x10 h1)) (fun x11 hx11 h => ?_)
     refine avb ?_
     refine brb h ?_ ?_<;>intro _ h
     ·cases h;exact eq_by
     ·refine qtb ?_;refine turn_sel (O := fun (x12 : (List (Gx.Listed)) × (List (Gx.Meaning)) × (List (Gx.Clue)) × (List (Gx.Issue)) × (List (Gx.Used)) × (List (Gx.Correction)) × (List (Gx.Entry)) × Int) => [some (.deep 4 (List.map Gx.Listed.enc x12.1)), some (.deep 2 (List.map Gx.Meaning.enc x12.2.1)), some (.deep 2 (List.map Gx.Clue.enc x12.2.2.1)), some (.deep 10 (List.map Gx.Issue.enc x12.2.2.2.1)), some (.deep 2 (List.map Gx.Used.enc x12.2.2.2.2.1)), some (.deep 5 (List.map Gx.Correction.enc x12.2.2.2.2.2.1)), some (.deep 4 (List.map Gx.Entry.enc x12.2.2.2.2.2.2.1))]) (V := fun (x12 : (List (Gx.Listed)) × (List (Gx.Meaning)) × (List (Gx.Clue)) × (List (Gx.Issue)) × (List (Gx.Used)) × (List (Gx.Correction)) × (List (Gx.Entry)) × Int) => .d (D.i x12.2.2.2.2.2.2.2)) h trivial (fun x12 h1 => (l_markHouse_ok N x6 1 h1)) (fun x12 hx12 h => ?_)
      refine avb ?_
      refine brb h ?_ ?_<;>intro _ h
      ·cases h;exact eq_by
      ·refine pdb ?_;refine call_sel (E := fun (x : Bool) => DV.one (D.b x)) h (fun x13 h1 => (l_eqHouse_ok N x8.1 x5.1 h1)) (fun x13 hx13 h => ?_)
       refine avb ?_
       refine brb h ?_ ?_<;>intro _ h
       ·cases h;exact eq_by
       ·refine brb h ?_ ?_<;>intro _ h
        ·cases h;exact eq_by
        ·refine qtb ?_;refine turn_sel (O := fun (x14 : (List (Gx.Listed)) × (List (Gx.Meaning)) × (List (Gx.Clue)) × (List (Gx.Issue)) × (List (Gx.Used)) × (List (Gx.Correction)) × (List (Gx.Entry)) × Int) => [some (.deep 4 (List.map Gx.Listed.enc x14.1)), some (.deep 2 (List.map Gx.Meaning.enc x14.2.1)), some (.deep 2 (List.map Gx.Clue.enc x14.2.2.1)), some (.deep 10 (List.map Gx.Issue.enc x14.2.2.2.1)), some (.deep 2 (List.map Gx.Used.enc x14.2.2.2.2.1)), some (.deep 5 (List.map Gx.Correction.enc x14.2.2.2.2.2.1)), some (.deep 4 (List.map Gx.Entry.enc x14.2.2.2.2.2.2.1))]) (V := fun (x14 : (List (Gx.Listed)) × (List (Gx.Meaning)) × (List (Gx.Clue)) × (List (Gx.Issue)) × (List (Gx.Used)) × (List (Gx.Correction)) × (List (Gx.Entry)) × Int) => .d (D.i x14.2.2.2.2.2.2.2)) h trivial (fun x14 h1 => (l_markHouse_ok N x8.1 1 h1)) (fun x14 hx14 h => ?_)
         refine avb ?_
         refine pdb ?_;refine call_sel (E := fun (x : Int) => DV.one (D.i x)) h (fun x15 h1 => (l_heldHouse_ok N (⟨x14.1, x14.2.1, (⟨(⟨x8.1.mDesk.mGrid.mRows, x8.1.mDesk.mGrid.mCols, x8.1.mDesk.mGrid.mCells⟩ : Gx.Grid), x8.1.mDesk.mFill, x14.2.2.1, x8.1.mDesk.mVersion⟩ : Gx.Draft), x14.2.2.2.1, x14.2.2.2.2.1, x14.2.2.2.2.2.1, x14.2.2.2.2.2.2.1, x8.1.mNow⟩ : Gx.House) 1 h1)) (fun x15 hx15 h => ?_)
         refine avb ?_
         refine brb h ?_ ?_<;>intro _ h
         ·cases h;exact eq_by
         ·refine brb h ?_ ?_<;>intro _ h
          ·cases h;exact eq_by
          ·refine pdb ?_;refine call_sel (E := fun (x : Gx.House) => DV.agg (Gx.House.enc x)) h (fun x16 h1 => (l_toHouse_ok N v0 h1)) (fun x16 hx16 h => ?_)
           refine avb ?_
           refine pdb ?_;refine call_sel (E := fun (x : Gx.Grid) => DV.agg (Gx.Grid.enc x)) h (fun x17 h1 => (l_toGrid_ok N v1 h1)) (fun x17 hx17 h => ?_)
           refine avb ?_
           refine pdb ?_;refine call_sel (E := fun (x : Gx.House × Bool) => DV.tup [DV.agg (Gx.House.enc x.1), DV.one (D.b x.2)]) h (fun x18 h1 => (i_StepDesk_ok N x16 x17 h1)) (fun x18 hx18 h => ?_)
           refine avb ?_
           refine pdb ?_;refine call_sel (E := fun (x : Bool) => DV.one (D.b x)) h (fun x19 h1 => (l_eqHouse_ok N x18.1 x5.1 h1)) (fun x19 hx19 h => ?_)
           refine avb ?_
           refine brb h ?_ ?_<;>intro _ h
           ·cases h;exact eq_by
           ·refine brb h ?_ ?_<;>intro _ h
            ·cases h;exact eq_by
            ·refine pdb ?_;refine call_sel (E := fun (x : Int) => DV.one (D.i x)) h (fun x20 h1 => (l_heldHouse_ok N (⟨x14.1, x14.2.1, (⟨(⟨x8.1.mDesk.mGrid.mRows, x8.1.mDesk.mGrid.mCols, x8.1.mDesk.mGrid.mCells⟩ : Gx.Grid), x8.1.mDesk.mFill, x14.2.2.1, x8.1.mDesk.mVersion⟩ : Gx.Draft), x14.2.2.2.1, x14.2.2.2.2.1, x14.2.2.2.2.2.1, x14.2.2.2.2.2.2.1, x8.1.mNow⟩ : Gx.House) 1 h1)) (fun x20 hx20 h => ?_)
             refine avb ?_
             refine brb h ?_ ?_<;>intro _ h
             ·cases h;exact eq_by
             ·refine brb h ?_ ?_<;>intro _ h
              ·cases h;exact eq_by
              ·cases h;exact eq_by
end Lw
end Go.Proofs
