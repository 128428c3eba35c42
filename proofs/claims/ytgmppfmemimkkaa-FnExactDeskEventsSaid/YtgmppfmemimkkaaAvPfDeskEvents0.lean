/- PRINTED BY gen.py (mine): their contracts. -/
import Derived.Test.YtgmppfmemimkkaaAvHpDeskEvents
namespace Go.Proofs
open Go Go.Av
set_option maxRecDepth 100000
set_option maxHeartbeats 40000000
set_option linter.unusedVariables false
set_option linter.unusedSimpArgs false
namespace Lw
theorem l_szGrid_ok (N : Nat) (v0 : Gx.Grid) (v1 : Int) {r : Int} (h : l_szGrid N v0 v1 = some r) : Pure Try.prog 4 [DV.agg (Gx.Grid.enc v0), DV.one (D.i v1)] (DV.one (D.i r)) := by
 refine pure_of_walk Try.tok Try.mixed Try.func4 (by kernel_rfl) fun W => ?_
 unfold l_szGrid at h
 refine avb ?_
 refine lns (v0.mCells.length : Int) ?_
 refine avb ?_
 refine brb h ?_ ?_<;>intro _ h
 ·cases h;exact eq_by
 ·cases h;exact eq_by

theorem l_szStep_ok (N : Nat) (v0 : Gx.Step) (v1 : Int) {r : Int} (h : l_szStep N v0 v1 = some r) : Pure Try.prog 46 [DV.agg (Gx.Step.enc v0), DV.one (D.i v1)] (DV.one (D.i r)) := by
 refine pure_of_walk Try.tok Try.mixed Try.func46 (by kernel_rfl) fun W => ?_
 unfold l_szStep at h
 refine avb ?_
 refine lns (v0.mWord.length : Int) ?_
 refine avb ?_
 refine brb h ?_ ?_<;>intro _ h
 ·cases h;exact eq_by
 ·cases h;exact eq_by

theorem l_szStepS_ok (N : Nat) (v0 : List (Gx.Step)) (v1 : Int) {r : Int} (h : l_szStepS N v0 v1 = some r) : Pure Try.prog 31 [DV.one (D.sl 4 (List.map Gx.Step.enc v0)), DV.one (D.i v1)] (DV.one (D.i r)) := by
 refine pure_of_walk Try.tok Try.mixed Try.func31 (by kernel_rfl) fun W => ?_
 unfold l_szStepS at h
 refine avb ?_
 refine lns (v0.length : Int) ?_
 refine avb ?_
 refine br_sel h (fun _ h => ?_) (fun _ h => ?_)
 ·refine avb ?_
  cases h;exact eq_by
 ·refine ab0 ?_
  obtain ⟨zt3, h, gt3⟩ := cutb_some h
  refine W.r_cut (fun (t3 : Int) => ⟨[(1, .d (D.i t3))], [], 1000⟩) (fun t => .nx t = zt3) ?_ ?_
  ·refine avb ?_
   refine loop_lp (fun (p1 : Int × Int) => ⟨[(0, .d (D.sl 4 (List.map Gx.Step.enc v0))), (1, .d (D.i p1.1)), (5, .d (D.i p1.2))], [], 1000⟩) h ?_ ?_
   ·exact weak_by
   intro np1 p1 yp1 h hfp1
   unfold l_szStepS_L1 at h
   refine avb ?_
   refine lns (v0.length : Int) ?_
   refine avb ?_
   refine brb h ?_ ?_<;>intro _ h
   ·refine idx_sel h (fun x1 hx1 h => ?_)
    refine avb ?_
    refine plb ?_;refine call_sel (E := fun (x : Int) => DV.one (D.i x)) h (fun x2 h1 => (l_szStep_ok N x1 p1.1 h1)) (fun x2 hx2 h => ?_)
    refine avb ?_
    refine brb h ?_ ?_<;>intro _ h
    ·have h := finr hfp1 h
     have h := cutr gt3 h
     cases h;exact eq_by
    ·exact lbk hfp1 h
   ·have h := finr hfp1 h
    refine cut_at (p1.1) (some_in h) ?_
    exact weak_by
  rintro t3 rfl
  have h : _ = some _ := gt3
  refine avb ?_
  cases h;exact eq_by

theorem l_szClue_ok (N : Nat) (v0 : Gx.Clue) (v1 : Int) {r : Int} (h : l_szClue N v0 v1 = some r) : Pure Try.prog 15 [DV.agg (Gx.Clue.enc v0), DV.one (D.i v1)] (DV.one (D.i r)) := by
 refine pure_of_walk Try.tok Try.mixed Try.func15 (by kernel_rfl) fun W => ?_
 unfold l_szClue at h
 refine avb ?_
 refine plb ?_;refine call_sel (E := fun (x : Int) => DV.one (D.i x)) h (fun x1 h1 => (l_szStepS_ok N v0.mPlay v1 h1)) (fun x1 hx1 h => ?_)
 refine avb ?_
 refine brb h ?_ ?_<;>intro _ h
 ·cases h;exact eq_by
 ·cases h;exact eq_by

theorem l_szClueS_ok (N : Nat) (v0 : List (Gx.Clue)) (v1 : Int) {r : Int} (h : l_szClueS N v0 v1 = some r) : Pure Try.prog 5 [DV.one (D.sl 2 (List.map Gx.Clue.enc v0)), DV.one (D.i v1)] (DV.one (D.i r)) := by
 refine pure_of_walk Try.tok Try.mixed Try.func5 (by kernel_rfl) fun W => ?_
 unfold l_szClueS at h
 refine avb ?_
 refine lns (v0.length : Int) ?_
 refine avb ?_
 refine br_sel h (fun _ h => ?_) (fun _ h => ?_)
 ·refine avb ?_
  cases h;exact eq_by
 ·refine ab0 ?_
  obtain ⟨zt3, h, gt3⟩ := cutb_some h
  refine W.r_cut (fun (t3 : Int) => ⟨[(1, .d (D.i t3))], [], 1000⟩) (fun t => .nx t = zt3) ?_ ?_
  ·refine avb ?_
   refine loop_lp (fun (p1 : Int × Int) => ⟨[(0, .d (D.sl 2 (List.map Gx.Clue.enc v0))), (1, .d (D.i p1.1)), (5, .d (D.i p1.2))], [], 1000⟩) h ?_ ?_
   ·exact weak_by
   intro np1 p1 yp1 h hfp1
   unfold l_szClueS_L1 at h
   refine avb ?_
   refine lns (v0.length : Int) ?_
   refine avb ?_
   refine brb h ?_ ?_<;>intro _ h
   ·refine idx_sel h (fun x1 hx1 h => ?_)
    refine avb ?_
    refine plb ?_;refine call_sel (E := fun (x : Int) => DV.one (D.i x)) h (fun x2 h1 => (l_szClue_ok N x1 p1.1 h1)) (fun x2 hx2 h => ?_)
    refine avb ?_
    refine brb h ?_ ?_<;>intro _ h
    ·have h := finr hfp1 h
     have h := cutr gt3 h
     cases h;exact eq_by
    ·exact lbk hfp1 h
   ·have h := finr hfp1 h
    refine cut_at (p1.1) (some_in h) ?_
    exact weak_by
  rintro t3 rfl
  have h : _ = some _ := gt3
  refine avb ?_
  cases h;exact eq_by

theorem l_toGrid_ok (N : Nat) (v0 : Gx.Grid) {r : Gx.Grid} (h : l_toGrid N v0 = some r) : Pure Try.prog 7 [DV.agg (Gx.Grid.enc v0)] (DV.agg (Gx.Grid.enc r)) := by
 refine pure_of_walk Try.tok Try.mixed Try.func7 (by kernel_rfl) fun W => ?_
 unfold l_toGrid at h
 refine avb ?_
 cases h;exact eq_by

theorem l_toStep_ok (N : Nat) (v0 : Gx.Step) {r : Gx.Step} (h : l_toStep N v0 = some r) : Pure Try.prog 47 [DV.agg (Gx.Step.enc v0)] (DV.agg (Gx.Step.enc r)) := by
 refine pure_of_walk Try.tok Try.mixed Try.func47 (by kernel_rfl) fun W => ?_
 unfold l_toStep at h
 refine avb ?_
 cases h;exact eq_by

theorem l_toStepS_ok (N : Nat) (v0 : List (Gx.Step)) {r : (List (Gx.Step))} (h : l_toStepS N v0 = some r) : Pure Try.prog 36 [DV.one (D.sl 4 (List.map Gx.Step.enc v0))] (DV.one (D.sl 4 (List.map Gx.Step.enc r))) := by
 refine pure_of_walk Try.tok Try.mixed Try.func36 (by kernel_rfl) fun W => ?_
 unfold l_toStepS at h
 refine avb ?_
 refine lns (v0.length : Int) ?_
 refine avb ?_
 refine chk_sel h (fun q => mks_ok q (by decide)) (fun h => ?_)
 refine ab0 ?_
 obtain ⟨zt4, h, gt4⟩ := bnd_some h
 refine W.r_cut (fun (t4 : (List (Gx.Step))) => ⟨[(3, .sl 1)], [(1, some (.arr 4 (List.map Gx.Step.enc t4) true))], 1000⟩) (fun t => t = zt4) ?_ ?_
 ·refine avb ?_
  refine loop_lp (fun (p1 : (List (Gx.Step)) × Int) => ⟨[(0, .d (D.sl 4 (List.map Gx.Step.enc v0))), (3, .sl 1), (4, .d (D.i p1.2))], [(1, some (.arr 4 (List.map Gx.Step.enc p1.1) true))], 1000⟩) h ?_ ?_
  ·exact weak_by
  intro np1 p1 yp1 h hfp1
  unfold l_toStepS_L1 at h
  refine avb ?_
  refine lns (v0.length : Int) ?_
  refine avb ?_
  refine brb h ?_ ?_<;>intro _ h
  ·refine idx_sel h (fun x1 hx1 h => ?_)
   refine avb ?_
   refine plb ?_;refine call_sel (E := fun (x : Gx.Step) => DV.agg (Gx.Step.enc x)) h (fun x2 h1 => (l_toStep_ok N x1 h1)) (fun x2 hx2 h => ?_)
   refine avb ?_
   refine idxp_sel h (fun x3 hx3 h => ?_)
   refine avb ?_
   refine ldp_sel hx3 ?_
   refine avb ?_
   exact lbk hfp1 h
  ·have h := finr hfp1 h
   refine cut_at (p1.1) (some_in h) ?_
   exact weak_by
 rintro t4 rfl
 have h : _ = some _ := gt4
 refine avb ?_
 cases h;exact eq_by

theorem l_toClue_ok (N : Nat) (v0 : Gx.Clue) {r : Gx.Clue} (h : l_toClue N v0 = some r) : Pure Try.prog 21 [DV.agg (Gx.Clue.enc v0)] (DV.agg (Gx.Clue.enc r)) := by
 refine pure_of_walk Try.tok Try.mixed Try.func21 (by kernel_rfl) fun W => ?_
 unfold l_toClue at h
 refine avb ?_
 refine plb ?_;refine call_sel (E := fun (x : (List (Gx.Step))) => DV.one (D.sl 4 (List.map Gx.Step.enc x))) h (fun x1 h1 => (l_toStepS_ok N v0.mPlay h1)) (fun x1 hx1 h => ?_)
 refine avb ?_
 cases h;exact eq_by

theorem l_toClueS_ok (N : Nat) (v0 : List (Gx.Clue)) {r : (List (Gx.Clue))} (h : l_toClueS N v0 = some r) : Pure Try.prog 8 [DV.one (D.sl 2 (List.map Gx.Clue.enc v0))] (DV.one (D.sl 2 (List.map Gx.Clue.enc r))) := by
 refine pure_of_walk Try.tok Try.mixed Try.func8 (by kernel_rfl) fun W => ?_
 unfold l_toClueS at h
 refine avb ?_
 refine lns (v0.length : Int) ?_
 refine avb ?_
 refine chk_sel h (fun q => mks_ok q (by decide)) (fun h => ?_)
 refine ab0 ?_
 obtain ⟨zt4, h, gt4⟩ := bnd_some h
 refine W.r_cut (fun (t4 : (List (Gx.Clue))) => ⟨[(3, .sl 1)], [(1, some (.arr 2 (List.map Gx.Clue.enc t4) true))], 1000⟩) (fun t => t = zt4) ?_ ?_
 ·refine avb ?_
  refine loop_lp (fun (p1 : (List (Gx.Clue)) × Int) => ⟨[(0, .d (D.sl 2 (List.map Gx.Clue.enc v0))), (3, .sl 1), (4, .d (D.i p1.2))], [(1, some (.arr 2 (List.map Gx.Clue.enc p1.1) true))], 1000⟩) h ?_ ?_
  ·exact weak_by
  intro np1 p1 yp1 h hfp1
  unfold l_toClueS_L1 at h
  refine avb ?_
  refine lns (v0.length : Int) ?_
  refine avb ?_
  refine brb h ?_ ?_<;>intro _ h
  ·refine idx_sel h (fun x1 hx1 h => ?_)
   refine avb ?_
   refine plb ?_;refine call_sel (E := fun (x : Gx.Clue) => DV.agg (Gx.Clue.enc x)) h (fun x2 h1 => (l_toClue_ok N x1 h1)) (fun x2 hx2 h => ?_)
   refine avb ?_
   refine idxp_sel h (fun x3 hx3 h => ?_)
   refine avb ?_
   refine ldp_sel hx3 ?_
   refine avb ?_
   exact lbk hfp1 h
  ·have h := finr hfp1 h
   refine cut_at (p1.1) (some_in h) ?_
   exact weak_by
 rintro t4 rfl
 have h : _ = some _ := gt4
 refine avb ?_
 cases h;exact eq_by

theorem s_l1In_ok (N : Nat) (v0 : Int) (v1 : Int) (v2 : Int) {r : Bool} (h : s_l1In N v0 v1 v2 = some r) : Pure Try.prog 34 [DV.one (D.i v0), DV.one (D.i v1), DV.one (D.i v2)] (DV.one (D.b r)) := by
 refine pure_of_walk Try.tok Try.mixed Try.func34 (by kernel_rfl) fun W => ?_
 unfold s_l1In at h
 refine avb ?_
 refine brb h ?_ ?_<;>intro _ h
 ·cases h;exact eq_by
 ·cases h;exact eq_by

theorem s_IsGrid_ok (N : Nat) (v0 : Gx.Grid) {r : Bool} (h : s_IsGrid N v0 = some r) : Pure Try.prog 32 [DV.agg (Gx.Grid.enc v0)] (DV.one (D.b r)) := by
 refine pure_of_walk Try.tok Try.mixed Try.func32 (by kernel_rfl) fun W => ?_
 unfold s_IsGrid at h
 refine avb ?_
 refine plb ?_;refine call_sel (E := fun (x : Bool) => DV.one (D.b x)) h (fun x1 h1 => (s_l1In_ok N v0.mRows 2 6 h1)) (fun x1 hx1 h => ?_)
 refine avb ?_
 refine brb h ?_ ?_<;>intro _ h
 ·cases h;exact eq_by
 ·refine plb ?_;refine call_sel (E := fun (x : Bool) => DV.one (D.b x)) h (fun x2 h1 => (s_l1In_ok N v0.mCols 2 6 h1)) (fun x2 hx2 h => ?_)
  refine avb ?_
  refine brb h ?_ ?_<;>intro _ h
  ·cases h;exact eq_by
  ·refine lns (v0.mCells.length : Int) ?_
   refine avb ?_
   refine br_sel h (fun _ h => ?_) (fun _ h => ?_)
   ·refine avb ?_
    cases h;exact eq_by
   ·refine ab0 ?_
    obtain ⟨zt3, h, gt3⟩ := cutb_some h
    refine W.r_cut (fun (t3 : Unit) => ⟨[], [], 1000⟩) (fun t => .nx t = zt3) ?_ ?_
    ·refine avb ?_
     refine loop_lp (fun (p1 : Int) => ⟨[(1, .ptr 1 0 0), (3, .d (D.i p1))], [(1, some (.box [.d (D.i v0.mRows), .d (D.i v0.mCols), .d (D.s v0.mCells)]))], 1000⟩) h ?_ ?_
     ·exact weak_by
     intro np1 p1 yp1 h hfp1
     unfold s_IsGrid_L1 at h
     refine avb ?_
     refine lns (v0.mCells.length : Int) ?_
     refine avb ?_
     refine brb h ?_ ?_<;>intro _ h
     ·refine chk_sel h (fun q => q) (fun h => ?_)
      refine avb ?_
      refine brb h ?_ ?_<;>intro _ h
      ·refine chk_sel h (fun q => q) (fun h => ?_)
       refine avb ?_
       refine brb h ?_ ?_<;>intro _ h
       ·have h := finr hfp1 h
        have h := cutr gt3 h
        cases h;exact eq_by
       ·exact lbk hfp1 h
      ·exact lbk hfp1 h
     ·have h := finr hfp1 h
      refine cut_at (()) (some_in h) ?_
      exact weak_by
    rintro t3 rfl
    have h : _ = some _ := gt3
    refine avb ?_
    cases h;exact eq_by

theorem s_l8From_ok (N : Nat) (v0 : Gx.Grid) (v1 : Int) (v2 : Bool) {r : Int} (h : s_l8From N v0 v1 v2 = some r) : Pure Try.prog 33 [DV.agg (Gx.Grid.enc v0), DV.one (D.i v1), DV.one (D.b v2)] (DV.one (D.i r)) := by
 refine pure_of_walk Try.tok Try.mixed Try.func33 (by kernel_rfl) fun W => ?_
 unfold s_l8From at h
 refine avb ?_
 refine chk_sel h (fun q => q) (fun h => ?_)
 refine ab0 ?_
 refine W.r_seq ?_
 refine ab0 ?_
 obtain ⟨zt1, h, gt1⟩ := bnd_some h
 refine W.r_cut (fun (t1 : Int × Int × Int) => ⟨[(1, .d (D.i v1)), (3, .ptr 1 0 0), (7, .d (D.i t1.1)), (8, .d (D.i t1.2.1)), (9, .d (D.i t1.2.2))], [(1, some (.box [.d (D.i v0.mRows), .d (D.i v0.mCols), .d (D.s v0.mCells)]))], 1000⟩) (fun t => t = zt1) ?_ ?_
 ·refine avb ?_
  refine brb h ?_ ?_<;>intro _ h
  ·refine chk_sel h (fun q => q) (fun h => ?_)
   refine avb ?_
   refine cut_at ((v0.mCols, w64 (Int.tdiv v1 v0.mCols), v0.mRows)) (some_in h) ?_
   exact weak_by
  ·refine cut_at ((1, Int.tmod v1 v0.mCols, v0.mCols)) (some_in h) ?_
   exact weak_by
 rintro t1 rfl
 have h : _ = some _ := gt1
 refine ab0 ?_
 obtain ⟨zt2, h, gt2⟩ := cutb_some h
 refine W.r_cut (fun (t2 : Unit) => ⟨[(1, .d (D.i v1)), (3, .ptr 1 0 0), (7, .d (D.i t1.1)), (8, .d (D.i t1.2.1)), (9, .d (D.i t1.2.2))], [(1, some (.box [.d (D.i v0.mRows), .d (D.i v0.mCols), .d (D.s v0.mCells)]))], 1000⟩) (fun t => .nx t = zt2) ?_ ?_
 ·refine avb ?_
  refine chk_sel h (fun q => q) (fun h => ?_)
  refine avb ?_
  refine brb h ?_ ?_<;>intro _ h
  ·have h := cutr gt2 h
   cases h;exact eq_by
  ·refine brb h ?_ ?_<;>intro _ h
   ·refine chk_sel h (fun q => q) (fun h => ?_)
    refine avb ?_
    refine brb h ?_ ?_<;>intro _ h
    ·have h := cutr gt2 h
     cases h;exact eq_by
    ·refine cut_at (()) (some_in h) ?_
     exact weak_by
   ·refine cut_at (()) (some_in h) ?_
    exact weak_by
 rintro t2 rfl
 have h : _ = some _ := gt2
 refine ab0 ?_
 refine W.r_seq ?_
 refine ab0 ?_
 obtain ⟨zt3, h, gt3⟩ := bnd_some h
 refine W.r_cut (fun (t3 : Int) => ⟨[(10, .d (D.i t3))], [], 1000⟩) (fun t => t = zt3) ?_ ?_
 ·refine avb ?_
  refine loop_lp (fun (p1 : Int) => ⟨[(1, .d (D.i v1)), (3, .ptr 1 0 0), (7, .d (D.i t1.1)), (8, .d (D.i t1.2.1)), (9, .d (D.i t1.2.2)), (10, .d (D.i p1))], [(1, some (.box [.d (D.i v0.mRows), .d (D.i v0.mCols), .d (D.s v0.mCells)]))], 1000⟩) h ?_ ?_
  ·exact weak_by
  intro np1 p1 yp1 h hfp1
  unfold s_l8From_L1 at h
  refine avb ?_
  refine brb h ?_ ?_<;>intro _ h
  ·refine chk_sel h (fun q => q) (fun h => ?_)
   refine avb ?_
   refine brb h ?_ ?_<;>intro _ h
   ·exact lbk hfp1 h
   ·have h := finr hfp1 h
    refine cut_at (p1) (some_in h) ?_
    exact weak_by
  ·have h := finr hfp1 h
   refine cut_at (p1) (some_in h) ?_
   exact weak_by
 rintro t3 rfl
 have h : _ = some _ := gt3
 refine avb ?_
 cases h;exact eq_by

theorem s_SlotsOf_ok (N : Nat) (v0 : Gx.Grid) {r : (List (Gx.Slot))} (h : s_SlotsOf N v0 = some r) : Pure Try.prog 16 [DV.agg (Gx.Grid.enc v0)] (DV.one (D.sl 4 (List.map Gx.Slot.enc r))) := by
 refine pure_of_walk Try.tok Try.mixed Try.func16 (by kernel_rfl) fun W => ?_
 unfold s_SlotsOf at h
 refine ab0 ?_
 refine W.r_seq ?_
 refine ab0 ?_
 refine W.r_seq ?_
 refine ab0 ?_
 refine W.r_seq ?_
 refine ab0 ?_
 obtain ⟨zt6, h, gt6⟩ := bnd_some h
 refine W.r_cut (fun (t6 : (List (Gx.Slot))) => ⟨[(3, .sl 1)], [(1, some (.arr 4 (List.map Gx.Slot.enc t6) true))], 1000⟩) (fun t => t = zt6) ?_ ?_
 ·refine avb ?_
  refine loop_lp (fun (p1 : (List (Gx.Slot)) × Int × Int) => ⟨[(1, .ptr 1 0 0), (3, .sl 2), (4, .d (D.i p1.2.1)), (5, .d (D.i p1.2.2))], [(1, some (.box [.d (D.i v0.mRows), .d (D.i v0.mCols), .d (D.s v0.mCells)])), (2, some (.arr 4 (List.map Gx.Slot.enc p1.1) true))], 1000⟩) h ?_ ?_
  ·exact weak_by
  intro np1 p1 yp1 h hfp1
  unfold s_SlotsOf_L1 at h
  refine avb ?_
  refine lns (v0.mCells.length : Int) ?_
  refine avb ?_
  refine brb h ?_ ?_<;>intro _ h
  ·refine plb ?_;refine call_sel (E := fun (x : Bool) => DV.one (D.b x)) h (fun x1 h1 => (s_IsGrid_ok N v0 h1)) (fun x1 hx1 h => ?_)
   refine avb ?_
   refine brb h ?_ ?_<;>intro _ h
   ·refine plb ?_;refine call_sel (E := fun (x : Int) => DV.one (D.i x)) h (fun x2 h1 => (s_l8From_ok N v0 p1.2.2 false h1)) (fun x2 hx2 h => ?_)
    refine avb ?_
    refine plb ?_;refine call_sel (E := fun (x : Int) => DV.one (D.i x)) h (fun x3 h1 => (s_l8From_ok N v0 p1.2.2 true h1)) (fun x3 hx3 h => ?_)
    refine ab0 ?_
    obtain ⟨zt4, h, gt4⟩ := bnd_some h
    refine W.r_cut (fun (t4 : Int) => ⟨[(1, .ptr 1 0 0), (3, .sl 2), (4, .d (D.i t4)), (5, .d (D.i p1.2.2)), (6, .d (D.i x2)), (7, .d (D.i x3))], [(1, some (.box [.d (D.i v0.mRows), .d (D.i v0.mCols), .d (D.s v0.mCells)])), (2, some (.arr 4 (List.map Gx.Slot.enc p1.1) true))], 1000⟩) (fun t => t = zt4) ?_ ?_
    ·refine avb ?_
     refine brb h ?_ ?_<;>intro _ h
     ·refine cut_at (w64 (p1.2.1 + 1)) (some_in h) ?_
      exact weak_by
     ·refine brb h ?_ ?_<;>intro _ h
      ·refine cut_at (w64 (p1.2.1 + 1)) (some_in h) ?_
       exact weak_by
      ·refine cut_at (p1.2.1) (some_in h) ?_
       exact weak_by
    rintro t4 rfl
    have h : _ = some _ := gt4
    refine ab0 ?_
    obtain ⟨zt5, h, gt5⟩ := bnd_some h
    refine W.r_cut (fun (t5 : (List (Gx.Slot))) => ⟨[(1, .ptr 1 0 0), (3, .sl 2), (4, .d (D.i t4)), (5, .d (D.i p1.2.2)), (7, .d (D.i x3))], [(1, some (.box [.d (D.i v0.mRows), .d (D.i v0.mCols), .d (D.s v0.mCells)])), (2, some (.arr 4 (List.map Gx.Slot.enc t5) true))], 1000⟩) (fun t => t = zt5) ?_ ?_
    ·refine avb ?_
     refine brb h ?_ ?_<;>intro _ h
     ·refine app_sel h (app_ok (by (first|rfl|simp [sub])) (by (first|rfl|simp [sub])) (by decide)) (by (intro h; cases h)) (fun h => ?_)
      refine avb ?_
      refine cut_at (p1.1 ++ ([(⟨t4, false, p1.2.2, x2⟩ : Gx.Slot)])) (some_in h) ?_
      exact weak_by
     ·refine cut_at (p1.1) (some_in h) ?_
      exact weak_by
    rintro t5 rfl
    have h : _ = some _ := gt5
    refine avb ?_
    refine brb h ?_ ?_<;>intro _ h
    ·refine app_sel h (app_ok (by (first|rfl|simp [sub])) (by (first|rfl|simp [sub])) (by decide)) (by (intro h; cases h)) (fun h => ?_)
     refine avb ?_
     exact lbk hfp1 h
    ·exact lbk hfp1 h
   ·have h := finr hfp1 h
    refine cut_at (p1.1) (some_in h) ?_
    exact weak_by
  ·have h := finr hfp1 h
   refine cut_at (p1.1) (some_in h) ?_
   exact weak_by
 rintro t6 rfl
 have h : _ = some _ := gt6
 refine avb ?_
 cases h;exact eq_by

theorem s_IsFill_ok (N : Nat) (v0 : Gx.Grid) (v1 : List UInt8) {r : Bool} (h : s_IsFill N v0 v1 = some r) : Pure Try.prog 17 [DV.agg (Gx.Grid.enc v0), DV.one (D.s v1)] (DV.one (D.b r)) := by
 refine pure_of_walk Try.tok Try.mixed Try.func17 (by kernel_rfl) fun W => ?_
 unfold s_IsFill at h
 refine avb ?_
 refine plb ?_;refine call_sel (E := fun (x : Bool) => DV.one (D.b x)) h (fun x1 h1 => (s_IsGrid_ok N v0 h1)) (fun x1 hx1 h => ?_)
 refine avb ?_
 refine brb h ?_ ?_<;>intro _ h
 ·cases h;exact eq_by
 ·refine lns (v1.length : Int) ?_
  refine avb ?_
  refine lns (v0.mCells.length : Int) ?_
  refine avb ?_
  refine br_sel h (fun _ h => ?_) (fun _ h => ?_)
  ·refine avb ?_
   cases h;exact eq_by
  ·refine ab0 ?_
   obtain ⟨zt3, h, gt3⟩ := cutb_some h
   refine W.r_cut (fun (t3 : Unit) => ⟨[], [], 1000⟩) (fun t => .nx t = zt3) ?_ ?_
   ·refine avb ?_
    refine loop_lp (fun (p1 : Int) => ⟨[(1, .d (D.s v1)), (2, .ptr 1 0 0), (5, .d (D.i p1))], [(1, some (.box [.d (D.i v0.mRows), .d (D.i v0.mCols), .d (D.s v0.mCells)]))], 1000⟩) h ?_ ?_
    ·exact weak_by
    intro np1 p1 yp1 h hfp1
    unfold s_IsFill_L1 at h
    refine avb ?_
    refine lns (v1.length : Int) ?_
    refine avb ?_
    refine br_sel h (fun _ h => ?_) (fun _ h => ?_)
    ·refine ab0 ?_
     refine W.r_seq ?_
     refine ab0 ?_
     obtain ⟨zt2, h, gt2⟩ := bnd_some h
     refine W.r_cut (fun (t2 : Bool) => ⟨[(1, .d (D.s v1)), (2, .ptr 1 0 0), (5, .d (D.i p1)), (6, .d (D.b t2))], [(1, some (.box [.d (D.i v0.mRows), .d (D.i v0.mCols), .d (D.s v0.mCells)]))], 1000⟩) (fun t => t = zt2) ?_ ?_
     ·refine avb ?_
      refine chk_sel h (fun q => q) (fun h => ?_)
      refine avb ?_
      refine brb h ?_ ?_<;>intro _ h
      ·refine cut_at (true) (some_in h) ?_
       exact weak_by
      ·refine chk_sel h (fun q => q) (fun h => ?_)
       refine avb ?_
       refine brb h ?_ ?_<;>intro _ h
       ·refine chk_sel h (fun q => q) (fun h => ?_)
        refine avb ?_
        refine cut_at (decide ((byteI v1 p1) ≤ 122)) (some_in h) ?_
        exact weak_by
       ·refine cut_at (false) (some_in h) ?_
        exact weak_by
     rintro t2 rfl
     have h : _ = some _ := gt2
     refine avb ?_
     refine chk_sel h (fun q => q) (fun h => ?_)
     refine avb ?_
     refine brb h ?_ ?_<;>intro _ h
     ·refine chk_sel h (fun q => q) (fun h => ?_)
      refine avb ?_
      refine brb h ?_ ?_<;>intro _ h
      ·have h := finr hfp1 h
       have h := cutr gt3 h
       cases h;exact eq_by
      ·refine chk_sel h (fun q => q) (fun h => ?_)
       refine avb ?_
       refine brb h ?_ ?_<;>intro _ h
       ·refine brb h ?_ ?_<;>intro _ h
        ·have h := finr hfp1 h
         have h := cutr gt3 h
         cases h;exact eq_by
        ·exact lbk hfp1 h
       ·exact lbk hfp1 h
     ·refine chk_sel h (fun q => q) (fun h => ?_)
      refine avb ?_
      refine brb h ?_ ?_<;>intro _ h
      ·refine brb h ?_ ?_<;>intro _ h
       ·have h := finr hfp1 h
        have h := cutr gt3 h
        cases h;exact eq_by
       ·exact lbk hfp1 h
      ·exact lbk hfp1 h
    ·refine avb ?_
     have h := finr hfp1 h
     refine cut_at (()) (some_in h) ?_
     exact weak_by
   rintro t3 rfl
   have h : _ = some _ := gt3
   refine avb ?_
   cases h;exact eq_by

theorem s_CellsOf_ok (N : Nat) (v0 : Gx.Grid) (v1 : Gx.Slot) {r : (List (Int))} (h : s_CellsOf N v0 v1 = some r) : Pure Try.prog 35 [DV.agg (Gx.Grid.enc v0), DV.agg (Gx.Slot.enc v1)] (DV.one (D.sl 1 (List.map Gx.encI r))) := by
 refine pure_of_walk Try.tok Try.mixed Try.func35 (by kernel_rfl) fun W => ?_
 unfold s_CellsOf at h
 refine avb ?_
 refine plb ?_;refine call_sel (E := fun (x : (List (Gx.Slot))) => DV.one (D.sl 4 (List.map Gx.Slot.enc x))) h (fun x1 h1 => (s_SlotsOf_ok N v0 h1)) (fun x1 hx1 h => ?_)
 refine ab0 ?_
 obtain ⟨zt4, h, gt4⟩ := bnd_some h
 refine W.r_cut (fun (t4 : (List (Int))) => ⟨[(5, .sl 1)], [(1, some (.arr 1 (List.map Gx.encI t4) true))], 1000⟩) (fun t => t = zt4) ?_ ?_
 ·refine avb ?_
  refine loop_lp (fun (p1 : (List (Int)) × Int) => ⟨[(2, .ptr 1 0 0), (3, .ptr 2 0 0), (5, .sl 3), (6, .sl 4), (7, .d (D.i p1.2))], [(1, some (.box [.d (D.i v0.mRows), .d (D.i v0.mCols), .d (D.s v0.mCells)])), (2, some (.box [.d (D.i v1.mNumber), .d (D.b v1.mDown), .d (D.i v1.mCell), .d (D.i v1.mLength)])), (3, some (.arr 1 (List.map Gx.encI p1.1) true)), (4, some (.arr 4 (List.map Gx.Slot.enc x1) true))], 1000⟩) h ?_ ?_
  ·exact weak_by
  intro np1 p1 yp1 h hfp1
  unfold s_CellsOf_L1 at h
  refine avb ?_
  refine lns (x1.length : Int) ?_
  refine avb ?_
  refine br_sel h (fun _ h => ?_) (fun _ h => ?_)
  ·refine ab0 ?_
   obtain ⟨zt3, h, gt3⟩ := bnd_some h
   refine W.r_cut (fun (t3 : (List (Int))) => ⟨[(2, .ptr 1 0 0), (3, .ptr 2 0 0), (5, .sl 3), (6, .sl 4), (7, .d (D.i p1.2))], [(1, some (.box [.d (D.i v0.mRows), .d (D.i v0.mCols), .d (D.s v0.mCells)])), (2, some (.box [.d (D.i v1.mNumber), .d (D.b v1.mDown), .d (D.i v1.mCell), .d (D.i v1.mLength)])), (3, some (.arr 1 (List.map Gx.encI t3) true)), (4, some (.arr 4 (List.map Gx.Slot.enc x1) true))], 1000⟩) (fun t => t = zt3) ?_ ?_
   ·refine avb ?_
    refine idxp_sel h (fun x2 hx2 h => ?_)
    refine avb ?_
    refine ldp_sel hx2 ?_
    refine avb ?_
    refine brb h ?_ ?_<;>intro _ h
    ·refine cut_at (p1.1) (some_in h) ?_
     exact weak_by
    ·refine loop_lp (fun (p2 : (List (Int)) × Int) => ⟨[(2, .ptr 1 0 0), (3, .ptr 2 0 0), (5, .sl 3), (6, .sl 4), (7, .d (D.i p1.2)), (8, .d (D.i p2.2))], [(1, some (.box [.d (D.i v0.mRows), .d (D.i v0.mCols), .d (D.s v0.mCells)])), (2, some (.box [.d (D.i v1.mNumber), .d (D.b v1.mDown), .d (D.i v1.mCell), .d (D.i v1.mLength)])), (3, some (.arr 1 (List.map Gx.encI p2.1) true)), (4, some (.arr 4 (List.map Gx.Slot.enc x1) true))], 1000⟩) h ?_ ?_
     ·exact weak_by
     intro np2 p2 yp2 h hfp2
     unfold s_CellsOf_L2 at h
     refine avb ?_
     refine brb h ?_ ?_<;>intro _ h
     ·refine brb h ?_ ?_<;>intro _ h
      ·refine app_sel h (app_ok (by (first|rfl|simp [sub])) (by (first|rfl|simp [sub])) (by decide)) (by (intro h; cases h)) (fun h => ?_)
       refine avb ?_
       exact lbk hfp2 h
      ·refine app_sel h (app_ok (by (first|rfl|simp [sub])) (by (first|rfl|simp [sub])) (by decide)) (by (intro h; cases h)) (fun h => ?_)
       refine avb ?_
       exact lbk hfp2 h
     ·have h := finr hfp2 h
      refine cut_at (p2.1) (some_in h) ?_
      exact weak_by
   rintro t3 rfl
   have h : _ = some _ := gt3
   refine avb ?_
   exact lbk hfp1 h
  ·refine avb ?_
   have h := finr hfp1 h
   refine cut_at (p1.1) (some_in h) ?_
   exact weak_by
 rintro t4 rfl
 have h : _ = some _ := gt4
 refine avb ?_
 cases h;exact eq_by

theorem s_SlotPattern_ok (N : Nat) (v0 : Gx.Grid) (v1 : List UInt8) (v2 : Int) {r : (List UInt8)} (h : s_SlotPattern N v0 v1 v2 = some r) : Pure Try.prog 18 [DV.agg (Gx.Grid.enc v0), DV.one (D.s v1), DV.one (D.i v2)] (DV.one (D.s r)) := by
 refine pure_of_walk Try.tok Try.mixed Try.func18 (by kernel_rfl) fun W => ?_
 unfold s_SlotPattern at h
 refine avb ?_
 refine plb ?_;refine call_sel (E := fun (x : (List (Gx.Slot))) => DV.one (D.sl 4 (List.map Gx.Slot.enc x))) h (fun x1 h1 => (s_SlotsOf_ok N v0 h1)) (fun x1 hx1 h => ?_)
 refine avb ?_
 refine plb ?_;refine call_sel (E := fun (x : Bool) => DV.one (D.b x)) h (fun x2 h1 => (s_IsFill_ok N v0 v1 h1)) (fun x2 hx2 h => ?_)
 refine avb ?_
 refine brb h ?_ ?_<;>intro _ h
 ·cases h;exact eq_by
 ·refine lns (x1.length : Int) ?_
  refine avb ?_
  refine plb ?_;refine call_sel (E := fun (x : Bool) => DV.one (D.b x)) h (fun x3 h1 => (s_l1In_ok N v2 0 (w64 ((x1.length : Int) - 1)) h1)) (fun x3 hx3 h => ?_)
  refine avb ?_
  refine brb h ?_ ?_<;>intro _ h
  ·cases h;exact eq_by
  ·refine idxp_sel h (fun x4 hx4 h => ?_)
   refine avb ?_
   refine ldp_sel hx4 ?_
   refine avb ?_
   refine plb ?_;refine call_sel (E := fun (x : (List (Int))) => DV.one (D.sl 1 (List.map Gx.encI x))) h (fun x5 h1 => (s_CellsOf_ok N v0 x4 h1)) (fun x5 hx5 h => ?_)
   refine ab0 ?_
   obtain ⟨zt8, h, gt8⟩ := bnd_some h
   refine W.r_cut (fun (t8 : (List UInt8)) => ⟨[(8, .d (D.s t8))], [], 1000⟩) (fun t => t = zt8) ?_ ?_
   ·refine avb ?_
    refine loop_lp (fun (p1 : (List UInt8) × Int) => ⟨[(1, .d (D.s v1)), (8, .d (D.s p1.1)), (9, .sl 1), (10, .d (D.i p1.2))], [(1, some (.arr 1 (List.map Gx.encI x5) true))], 1000⟩) h ?_ ?_
    ·exact weak_by
    intro np1 p1 yp1 h hfp1
    unfold s_SlotPattern_L1 at h
    refine avb ?_
    refine lns (x5.length : Int) ?_
    refine avb ?_
    refine brb h ?_ ?_<;>intro _ h
    ·refine idxp_sel h (fun x6 hx6 h => ?_)
     refine avb ?_
     refine ldp_sel hx6 ?_
     refine avb ?_
     refine idxp_sel h (fun x7 hx7 h => ?_)
     refine avb ?_
     refine ldp_sel hx7 ?_
     refine avb ?_
     refine chk_sel h (fun q => q) (fun h => ?_)
     refine avb ?_
     refine chk_sel h (fun q => Nat.le_trans q (by decide)) (fun h => ?_)
     refine avb ?_
     exact lbk hfp1 h
    ·have h := finr hfp1 h
     refine cut_at (p1.1) (some_in h) ?_
     exact weak_by
   rintro t8 rfl
   have h : _ = some _ := gt8
   refine avb ?_
   cases h;exact eq_by

theorem s_l11Open_ok (N : Nat) (v0 : List UInt8) {r : Bool} (h : s_l11Open N v0 = some r) : Pure Try.prog 19 [DV.one (D.s v0)] (DV.one (D.b r)) := by
 refine pure_of_walk Try.tok Try.mixed Try.func19 (by kernel_rfl) fun W => ?_
 unfold s_l11Open at h
 refine ab0 ?_
 refine W.r_seq ?_
 refine ab0 ?_
 obtain ⟨zt1, h, gt1⟩ := cutb_some h
 refine W.r_cut (fun (t1 : Unit) => ⟨[], [], 1000⟩) (fun t => .nx t = zt1) ?_ ?_
 ·refine avb ?_
  refine loop_lp (fun (p1 : Int) => ⟨[(0, .d (D.s v0)), (3, .d (D.i p1))], [], 1000⟩) h ?_ ?_
  ·exact weak_by
  intro np1 p1 yp1 h hfp1
  unfold s_l11Open_L1 at h
  refine avb ?_
  refine lns (v0.length : Int) ?_
  refine avb ?_
  refine brb h ?_ ?_<;>intro _ h
  ·refine chk_sel h (fun q => q) (fun h => ?_)
   refine avb ?_
   refine brb h ?_ ?_<;>intro _ h
   ·have h := finr hfp1 h
    have h := cutr gt1 h
    cases h;exact eq_by
   ·exact lbk hfp1 h
  ·have h := finr hfp1 h
   refine cut_at (()) (some_in h) ?_
   exact weak_by
 rintro t1 rfl
 have h : _ = some _ := gt1
 refine avb ?_
 cases h;exact eq_by

theorem s_l18Copy_ok (N : Nat) (v0 : Gx.Clue) {r : Gx.Clue} (h : s_l18Copy N v0 = some r) : Pure Try.prog 20 [DV.agg (Gx.Clue.enc v0)] (DV.agg (Gx.Clue.enc r)) := by
 refine pure_of_walk Try.tok Try.mixed Try.func20 (by kernel_rfl) fun W => ?_
 unfold s_l18Copy at h
 refine avb ?_
 refine app_sel h (app_ok (by (first|rfl|simp [sub])) (by (first|rfl|simp [sub])) (by decide)) (by (intro _; first | exact flat_map (fun _ => rfl) | exact flat_take (flat_drop (flat_map (fun _ => rfl))))) (fun h => ?_)
 refine avb ?_
 cases h;exact eq_by

theorem s_DeskEvents_ok (N : Nat) (v0 : Gx.Grid) (v1 : List UInt8) (v2 : List (Gx.Clue)) {r : (List (Gx.Event))} (h : s_DeskEvents N v0 v1 v2 = some r) : Pure Try.prog 6 [DV.agg (Gx.Grid.enc v0), DV.one (D.s v1), DV.one (D.sl 2 (List.map Gx.Clue.enc v2))] (DV.one (D.sl 16 (List.map Gx.Event.enc r))) := by
 refine pure_of_walk Try.tok Try.mixed Try.func6 (by kernel_rfl) fun W => ?_
 unfold s_DeskEvents at h
 refine avb ?_
 refine plb ?_;refine call_sel (E := fun (x : (List (Gx.Slot))) => DV.one (D.sl 4 (List.map Gx.Slot.enc x))) h (fun x1 h1 => (s_SlotsOf_ok N v0 h1)) (fun x1 hx1 h => ?_)
 refine ab0 ?_
 obtain ⟨zt5, h, gt5⟩ := bnd_some h
 refine W.r_cut (fun (t5 : (List (Gx.Event))) => ⟨[(1, .d (D.s v1)), (2, .d (D.sl 2 (List.map Gx.Clue.enc v2))), (3, .ptr 1 0 0), (7, .sl 2)], [(1, some (.box [.d (D.i v0.mRows), .d (D.i v0.mCols), .d (D.s v0.mCells)])), (2, some (.arr 16 (List.map Gx.Event.enc t5) true))], 1000⟩) (fun t => t = zt5) ?_ ?_
 ·refine avb ?_
  refine loop_lp (fun (p1 : (List (Gx.Event)) × Int) => ⟨[(1, .d (D.s v1)), (2, .d (D.sl 2 (List.map Gx.Clue.enc v2))), (3, .ptr 1 0 0), (7, .sl 2), (8, .sl 3), (9, .d (D.i p1.2))], [(1, some (.box [.d (D.i v0.mRows), .d (D.i v0.mCols), .d (D.s v0.mCells)])), (2, some (.arr 16 (List.map Gx.Event.enc p1.1) true)), (3, some (.arr 4 (List.map Gx.Slot.enc x1) true))], 1000⟩) h ?_ ?_
  ·exact weak_by
  intro np1 p1 yp1 h hfp1
  unfold s_DeskEvents_L1 at h
  refine avb ?_
  refine lns (x1.length : Int) ?_
  refine avb ?_
  refine brb h ?_ ?_<;>intro _ h
  ·refine plb ?_;refine call_sel (E := fun (x : Bool) => DV.one (D.b x)) h (fun x2 h1 => (s_IsFill_ok N v0 v1 h1)) (fun x2 hx2 h => ?_)
   refine avb ?_
   refine brb h ?_ ?_<;>intro _ h
   ·refine plb ?_;refine call_sel (E := fun (x : (List UInt8)) => DV.one (D.s x)) h (fun x3 h1 => (s_SlotPattern_ok N v0 v1 p1.2 h1)) (fun x3 hx3 h => ?_)
    refine avb ?_
    refine plb ?_;refine call_sel (E := fun (x : Bool) => DV.one (D.b x)) h (fun x4 h1 => (s_l11Open_ok N x3 h1)) (fun x4 hx4 h => ?_)
    refine avb ?_
    refine brb h ?_ ?_<;>intro _ h
    ·refine app_sel h (app_ok (by (first|rfl|simp [sub])) (by (first|rfl|simp [sub])) (by decide)) (by (intro h; cases h)) (fun h => ?_)
     refine avb ?_
     exact lbk hfp1 h
    ·exact lbk hfp1 h
   ·have h := finr hfp1 h
    refine cut_at (p1.1) (some_in h) ?_
    exact weak_by
  ·have h := finr hfp1 h
   refine cut_at (p1.1) (some_in h) ?_
   exact weak_by
 rintro t5 rfl
 have h : _ = some _ := gt5
 refine ab0 ?_
 obtain ⟨zt9, h, gt9⟩ := bnd_some h
 refine W.r_cut (fun (t9 : (List (Gx.Event))) => ⟨[(7, .sl 1)], [(1, some (.arr 16 (List.map Gx.Event.enc t9) true))], 1000⟩) (fun t => t = zt9) ?_ ?_
 ·refine avb ?_
  refine loop_lp (fun (p2 : (List (Gx.Event)) × Int) => ⟨[(1, .d (D.s v1)), (2, .d (D.sl 2 (List.map Gx.Clue.enc v2))), (3, .ptr 1 0 0), (7, .sl 2), (11, .d (D.i p2.2))], [(1, some (.box [.d (D.i v0.mRows), .d (D.i v0.mCols), .d (D.s v0.mCells)])), (2, some (.arr 16 (List.map Gx.Event.enc p2.1) true))], 1000⟩) h ?_ ?_
  ·exact weak_by
  intro np2 p2 yp2 h hfp2
  unfold s_DeskEvents_L2 at h
  refine avb ?_
  refine lns (v2.length : Int) ?_
  refine avb ?_
  refine brb h ?_ ?_<;>intro _ h
  ·refine plb ?_;refine call_sel (E := fun (x : Bool) => DV.one (D.b x)) h (fun x6 h1 => (s_IsFill_ok N v0 v1 h1)) (fun x6 hx6 h => ?_)
   refine avb ?_
   refine brb h ?_ ?_<;>intro _ h
   ·refine idx_sel h (fun x7 hx7 h => ?_)
    refine avb ?_
    refine plb ?_;refine call_sel (E := fun (x : Gx.Clue) => DV.agg (Gx.Clue.enc x)) h (fun x8 h1 => (s_l18Copy_ok N x7 h1)) (fun x8 hx8 h => ?_)
    refine avb ?_
    refine app_sel h (app_ok (by (first|rfl|simp [sub])) (by (first|rfl|simp [sub])) (by decide)) (by (intro h; cases h)) (fun h => ?_)
    refine avb ?_
    exact lbk hfp2 h
   ·have h := finr hfp2 h
    refine cut_at (p2.1) (some_in h) ?_
    exact weak_by
  ·have h := finr hfp2 h
   refine cut_at (p2.1) (some_in h) ?_
   exact weak_by
 rintro t9 rfl
 have h : _ = some _ := gt9
 refine avb ?_
 cases h;exact eq_by

theorem i_InRange_ok (N : Nat) (v0 : Int) (v1 : Int) (v2 : Int) {r : Bool} (h : i_InRange N v0 v1 v2 = some r) : Pure Try.prog 48 [DV.one (D.i v0), DV.one (D.i v1), DV.one (D.i v2)] (DV.one (D.b r)) := by
 refine pure_of_walk Try.tok Try.mixed Try.func48 (by kernel_rfl) fun W => ?_
 unfold i_InRange at h
 refine avb ?_
 refine brb h ?_ ?_<;>intro _ h
 ·cases h;exact eq_by
 ·cases h;exact eq_by

theorem i_IsGrid_ok (N : Nat) (v0 : Gx.Grid) {r : Bool} (h : i_IsGrid N v0 = some r) : Pure Try.prog 37 [DV.agg (Gx.Grid.enc v0)] (DV.one (D.b r)) := by
 refine pure_of_walk Try.tok Try.mixed Try.func37 (by kernel_rfl) fun W => ?_
 unfold i_IsGrid at h
 refine avb ?_
 refine plb ?_;refine call_sel (E := fun (x : Bool) => DV.one (D.b x)) h (fun x1 h1 => (i_InRange_ok N v0.mRows 2 6 h1)) (fun x1 hx1 h => ?_)
 refine avb ?_
 refine brb h ?_ ?_<;>intro _ h
 ·cases h;exact eq_by
 ·refine plb ?_;refine call_sel (E := fun (x : Bool) => DV.one (D.b x)) h (fun x2 h1 => (i_InRange_ok N v0.mCols 2 6 h1)) (fun x2 hx2 h => ?_)
  refine avb ?_
  refine brb h ?_ ?_<;>intro _ h
  ·cases h;exact eq_by
  ·refine lns (v0.mCells.length : Int) ?_
   refine avb ?_
   refine br_sel h (fun _ h => ?_) (fun _ h => ?_)
   ·refine avb ?_
    cases h;exact eq_by
   ·refine ab0 ?_
    obtain ⟨zt3, h, gt3⟩ := cutb_some h
    refine W.r_cut (fun (t3 : Unit) => ⟨[], [], 1000⟩) (fun t => .nx t = zt3) ?_ ?_
    ·refine avb ?_
     refine lns (v0.mCells.length : Int) ?_
     refine avb ?_
     refine loop_lp (fun (p1 : Int) => ⟨[(1, .ptr 1 0 0), (27, .d (D.i (v0.mCells.length : Int))), (28, .d (D.i p1))], [(1, some (.box [.d (D.i v0.mRows), .d (D.i v0.mCols), .d (D.s v0.mCells)]))], 1000⟩) h ?_ ?_
     ·exact weak_by
     intro np1 p1 yp1 h hfp1
     unfold i_IsGrid_L1 at h
     refine avb ?_
     refine brb h ?_ ?_<;>intro _ h
     ·refine chk_sel h (fun q => q) (fun h => ?_)
      refine avb ?_
      refine brb h ?_ ?_<;>intro _ h
      ·refine chk_sel h (fun q => q) (fun h => ?_)
       refine avb ?_
       refine brb h ?_ ?_<;>intro _ h
       ·have h := finr hfp1 h
        have h := cutr gt3 h
        cases h;exact eq_by
       ·exact lbk hfp1 h
      ·exact lbk hfp1 h
     ·have h := finr hfp1 h
      refine cut_at (()) (some_in h) ?_
      exact weak_by
    rintro t3 rfl
    have h : _ = some _ := gt3
    refine avb ?_
    cases h;exact eq_by

theorem i_isLetter_ok (N : Nat) (v0 : Int) {r : Bool} (h : i_isLetter N v0 = some r) : Pure Try.prog 38 [DV.one (D.u8 v0)] (DV.one (D.b r)) := by
 refine pure_of_walk Try.tok Try.mixed Try.func38 (by kernel_rfl) fun W => ?_
 unfold i_isLetter at h
 refine avb ?_
 refine brb h ?_ ?_<;>intro _ h
 ·cases h;exact eq_by
 ·cases h;exact eq_by

theorem i_IsFill_ok (N : Nat) (v0 : Gx.Grid) (v1 : List UInt8) {r : Bool} (h : i_IsFill N v0 v1 = some r) : Pure Try.prog 22 [DV.agg (Gx.Grid.enc v0), DV.one (D.s v1)] (DV.one (D.b r)) := by
 refine pure_of_walk Try.tok Try.mixed Try.func22 (by kernel_rfl) fun W => ?_
 unfold i_IsFill at h
 refine avb ?_
 refine plb ?_;refine call_sel (E := fun (x : Bool) => DV.one (D.b x)) h (fun x1 h1 => (i_IsGrid_ok N v0 h1)) (fun x1 hx1 h => ?_)
 refine avb ?_
 refine brb h ?_ ?_<;>intro _ h
 ·cases h;exact eq_by
 ·refine lns (v1.length : Int) ?_
  refine avb ?_
  refine lns (v0.mCells.length : Int) ?_
  refine avb ?_
  refine br_sel h (fun _ h => ?_) (fun _ h => ?_)
  ·refine avb ?_
   cases h;exact eq_by
  ·refine ab0 ?_
   obtain ⟨zt3, h, gt3⟩ := cutb_some h
   refine W.r_cut (fun (t3 : Unit) => ⟨[], [], 1000⟩) (fun t => .nx t = zt3) ?_ ?_
   ·refine avb ?_
    refine lns (v1.length : Int) ?_
    refine avb ?_
    refine loop_lp (fun (p1 : Int) => ⟨[(1, .d (D.s v1)), (2, .ptr 1 0 0), (18, .d (D.i (v1.length : Int))), (19, .d (D.i p1))], [(1, some (.box [.d (D.i v0.mRows), .d (D.i v0.mCols), .d (D.s v0.mCells)]))], 1000⟩) h ?_ ?_
    ·exact weak_by
    intro np1 p1 yp1 h hfp1
    unfold i_IsFill_L1 at h
    refine avb ?_
    refine brb h ?_ ?_<;>intro _ h
    ·refine chk_sel h (fun q => q) (fun h => ?_)
     refine avb ?_
     refine chk_sel h (fun q => q) (fun h => ?_)
     refine avb ?_
     refine brb h ?_ ?_<;>intro _ h
     ·have h := finr hfp1 h
      have h := cutr gt3 h
      cases h;exact eq_by
     ·refine chk_sel h (fun q => q) (fun h => ?_)
      refine avb ?_
      refine brb h ?_ ?_<;>intro _ h
      ·refine chk_sel h (fun q => q) (fun h => ?_)
       refine avb ?_
       refine brb h ?_ ?_<;>intro _ h
       ·refine chk_sel h (fun q => q) (fun h => ?_)
        refine avb ?_
        refine plb ?_;refine call_sel (E := fun (x : Bool) => DV.one (D.b x)) h (fun x2 h1 => (i_isLetter_ok N (byteI v1 p1) h1)) (fun x2 hx2 h => ?_)
        refine avb ?_
        refine brb h ?_ ?_<;>intro _ h
        ·have h := finr hfp1 h
         have h := cutr gt3 h
         cases h;exact eq_by
        ·exact lbk hfp1 h
       ·exact lbk hfp1 h
      ·exact lbk hfp1 h
    ·have h := finr hfp1 h
     refine cut_at (()) (some_in h) ?_
     exact weak_by
   rintro t3 rfl
   have h : _ = some _ := gt3
   refine avb ?_
   cases h;exact eq_by

theorem i_run_ok (N : Nat) (v0 : Gx.Grid) (v1 : Int) (v2 : Bool) {r : Int} (h : i_run N v0 v1 v2 = some r) : Pure Try.prog 52 [DV.agg (Gx.Grid.enc v0), DV.one (D.i v1), DV.one (D.b v2)] (DV.one (D.i r)) := by
 refine pure_of_walk Try.tok Try.mixed Try.func52 (by kernel_rfl) fun W => ?_
 unfold i_run at h
 refine avb ?_
 refine chk_sel h (fun q => q) (fun h => ?_)
 refine ab0 ?_
 obtain ⟨zt1, h, gt1⟩ := bnd_some h
 refine W.r_cut (fun (t1 : Int × Int × Int) => ⟨[(1, .d (D.i v1)), (3, .ptr 1 0 0), (7, .d (D.i t1.1)), (8, .d (D.i t1.2.1)), (9, .d (D.i t1.2.2))], [(1, some (.box [.d (D.i v0.mRows), .d (D.i v0.mCols), .d (D.s v0.mCells)]))], 1000⟩) (fun t => t = zt1) ?_ ?_
 ·refine avb ?_
  refine brb h ?_ ?_<;>intro _ h
  ·refine chk_sel h (fun q => q) (fun h => ?_)
   refine avb ?_
   refine cut_at ((v0.mCols, w64 (Int.tdiv v1 v0.mCols), v0.mRows)) (some_in h) ?_
   exact weak_by
  ·refine cut_at ((1, Int.tmod v1 v0.mCols, v0.mCols)) (some_in h) ?_
   exact weak_by
 rintro t1 rfl
 have h : _ = some _ := gt1
 refine ab0 ?_
 obtain ⟨zt2, h, gt2⟩ := cutb_some h
 refine W.r_cut (fun (t2 : Unit) => ⟨[(1, .d (D.i v1)), (3, .ptr 1 0 0), (7, .d (D.i t1.1)), (8, .d (D.i t1.2.1)), (9, .d (D.i t1.2.2))], [(1, some (.box [.d (D.i v0.mRows), .d (D.i v0.mCols), .d (D.s v0.mCells)]))], 1000⟩) (fun t => .nx t = zt2) ?_ ?_
 ·refine avb ?_
  refine chk_sel h (fun q => q) (fun h => ?_)
  refine avb ?_
  refine brb h ?_ ?_<;>intro _ h
  ·have h := cutr gt2 h
   cases h;exact eq_by
  ·refine brb h ?_ ?_<;>intro _ h
   ·refine chk_sel h (fun q => q) (fun h => ?_)
    refine avb ?_
    refine brb h ?_ ?_<;>intro _ h
    ·have h := cutr gt2 h
     cases h;exact eq_by
    ·refine cut_at (()) (some_in h) ?_
     exact weak_by
   ·refine cut_at (()) (some_in h) ?_
    exact weak_by
 rintro t2 rfl
 have h : _ = some _ := gt2
 refine ab0 ?_
 refine W.r_seq ?_
 refine ab0 ?_
 obtain ⟨zt3, h, gt3⟩ := bnd_some h
 refine W.r_cut (fun (t3 : Int) => ⟨[(10, .d (D.i t3))], [], 1000⟩) (fun t => t = zt3) ?_ ?_
 ·refine avb ?_
  refine loop_lp (fun (p1 : Int) => ⟨[(1, .d (D.i v1)), (3, .ptr 1 0 0), (7, .d (D.i t1.1)), (8, .d (D.i t1.2.1)), (9, .d (D.i t1.2.2)), (10, .d (D.i p1))], [(1, some (.box [.d (D.i v0.mRows), .d (D.i v0.mCols), .d (D.s v0.mCells)]))], 1000⟩) h ?_ ?_
  ·exact weak_by
  intro np1 p1 yp1 h hfp1
  unfold i_run_L1 at h
  refine avb ?_
  refine brb h ?_ ?_<;>intro _ h
  ·refine chk_sel h (fun q => q) (fun h => ?_)
   refine avb ?_
   refine brb h ?_ ?_<;>intro _ h
   ·exact lbk hfp1 h
   ·have h := finr hfp1 h
    refine cut_at (p1) (some_in h) ?_
    exact weak_by
  ·have h := finr hfp1 h
   refine cut_at (p1) (some_in h) ?_
   exact weak_by
 rintro t3 rfl
 have h : _ = some _ := gt3
 refine avb ?_
 cases h;exact eq_by

theorem i_SlotsOf_ok (N : Nat) (v0 : Gx.Grid) {r : (List (Gx.Slot))} (h : i_SlotsOf N v0 = some r) : Pure Try.prog 49 [DV.agg (Gx.Grid.enc v0)] (DV.one (D.sl 4 (List.map Gx.Slot.enc r))) := by
 refine pure_of_walk Try.tok Try.mixed Try.func49 (by kernel_rfl) fun W => ?_
 unfold i_SlotsOf at h
 refine avb ?_
 refine plb ?_;refine call_sel (E := fun (x : Bool) => DV.one (D.b x)) h (fun x1 h1 => (i_IsGrid_ok N v0 h1)) (fun x1 hx1 h => ?_)
 refine avb ?_
 refine br_sel h (fun _ h => ?_) (fun _ h => ?_)
 ·refine avb ?_
  cases h;exact eq_by
 ·refine ab0 ?_
  refine W.r_seq ?_
  refine ab0 ?_
  refine W.r_seq ?_
  refine ab0 ?_
  obtain ⟨zt6, h, gt6⟩ := bnd_some h
  refine W.r_cut (fun (t6 : (List (Gx.Slot))) => ⟨[(3, .sl 1)], [(1, some (.arr 4 (List.map Gx.Slot.enc t6) true))], 1000⟩) (fun t => t = zt6) ?_ ?_
  ·refine avb ?_
   refine lns (v0.mCells.length : Int) ?_
   refine avb ?_
   refine loop_lp (fun (p1 : (List (Gx.Slot)) × Int × Int) => ⟨[(1, .ptr 1 0 0), (3, .sl 2), (4, .d (D.i p1.2.1)), (13, .d (D.i (v0.mCells.length : Int))), (14, .d (D.i p1.2.2))], [(1, some (.box [.d (D.i v0.mRows), .d (D.i v0.mCols), .d (D.s v0.mCells)])), (2, some (.arr 4 (List.map Gx.Slot.enc p1.1) true))], 1000⟩) h ?_ ?_
   ·exact weak_by
   intro np1 p1 yp1 h hfp1
   unfold i_SlotsOf_L1 at h
   refine avb ?_
   refine brb h ?_ ?_<;>intro _ h
   ·refine plb ?_;refine call_sel (E := fun (x : Int) => DV.one (D.i x)) h (fun x2 h1 => (i_run_ok N v0 p1.2.2 false h1)) (fun x2 hx2 h => ?_)
    refine avb ?_
    refine plb ?_;refine call_sel (E := fun (x : Int) => DV.one (D.i x)) h (fun x3 h1 => (i_run_ok N v0 p1.2.2 true h1)) (fun x3 hx3 h => ?_)
    refine ab0 ?_
    obtain ⟨zt4, h, gt4⟩ := bnd_some h
    refine W.r_cut (fun (t4 : Int) => ⟨[(1, .ptr 1 0 0), (3, .sl 2), (4, .d (D.i t4)), (5, .d (D.i p1.2.2)), (6, .d (D.i x2)), (7, .d (D.i x3)), (13, .d (D.i (v0.mCells.length : Int))), (14, .d (D.i p1.2.2))], [(1, some (.box [.d (D.i v0.mRows), .d (D.i v0.mCols), .d (D.s v0.mCells)])), (2, some (.arr 4 (List.map Gx.Slot.enc p1.1) true))], 1000⟩) (fun t => t = zt4) ?_ ?_
    ·refine avb ?_
     refine brb h ?_ ?_<;>intro _ h
     ·refine cut_at (w64 (p1.2.1 + 1)) (some_in h) ?_
      exact weak_by
     ·refine brb h ?_ ?_<;>intro _ h
      ·refine cut_at (w64 (p1.2.1 + 1)) (some_in h) ?_
       exact weak_by
      ·refine cut_at (p1.2.1) (some_in h) ?_
       exact weak_by
    rintro t4 rfl
    have h : _ = some _ := gt4
    refine ab0 ?_
    obtain ⟨zt5, h, gt5⟩ := bnd_some h
    refine W.r_cut (fun (t5 : (List (Gx.Slot))) => ⟨[(1, .ptr 1 0 0), (3, .sl 2), (4, .d (D.i t4)), (5, .d (D.i p1.2.2)), (7, .d (D.i x3)), (13, .d (D.i (v0.mCells.length : Int))), (14, .d (D.i p1.2.2))], [(1, some (.box [.d (D.i v0.mRows), .d (D.i v0.mCols), .d (D.s v0.mCells)])), (2, some (.arr 4 (List.map Gx.Slot.enc t5) true))], 1000⟩) (fun t => t = zt5) ?_ ?_
    ·refine avb ?_
     refine brb h ?_ ?_<;>intro _ h
     ·refine app_sel h (app_ok (by (first|rfl|simp [sub])) (by (first|rfl|simp [sub])) (by decide)) (by (intro h; cases h)) (fun h => ?_)
      refine avb ?_
      refine cut_at (p1.1 ++ ([(⟨t4, false, p1.2.2, x2⟩ : Gx.Slot)])) (some_in h) ?_
      exact weak_by
     ·refine cut_at (p1.1) (some_in h) ?_
      exact weak_by
    rintro t5 rfl
    have h : _ = some _ := gt5
    refine avb ?_
    refine brb h ?_ ?_<;>intro _ h
    ·refine app_sel h (app_ok (by (first|rfl|simp [sub])) (by (first|rfl|simp [sub])) (by decide)) (by (intro h; cases h)) (fun h => ?_)
     refine avb ?_
     exact lbk hfp1 h
    ·exact lbk hfp1 h
   ·have h := finr hfp1 h
    refine cut_at (p1.1) (some_in h) ?_
    exact weak_by
  rintro t6 rfl
  have h : _ = some _ := gt6
  refine avb ?_
  cases h;exact eq_by

theorem i_cells_ok (N : Nat) (v0 : Gx.Grid) (v1 : Gx.Slot) {r : (List (Int))} (h : i_cells N v0 v1 = some r) : Pure Try.prog 50 [DV.agg (Gx.Grid.enc v0), DV.agg (Gx.Slot.enc v1)] (DV.one (D.sl 1 (List.map Gx.encI r))) := by
 refine pure_of_walk Try.tok Try.mixed Try.func50 (by kernel_rfl) fun W => ?_
 unfold i_cells at h
 refine ab0 ?_
 refine W.r_seq ?_
 refine ab0 ?_
 refine W.r_seq ?_
 refine ab0 ?_
 obtain ⟨zt1, h, gt1⟩ := bnd_some h
 refine W.r_cut (fun (t1 : Int) => ⟨[(3, .ptr 1 0 0), (5, .d (D.i t1))], [(1, some (.box [.d (D.i v1.mNumber), .d (D.b v1.mDown), .d (D.i v1.mCell), .d (D.i v1.mLength)]))], 1000⟩) (fun t => t = zt1) ?_ ?_
 ·refine avb ?_
  refine brb h ?_ ?_<;>intro _ h
  ·refine cut_at (v0.mCols) (some_in h) ?_
   exact weak_by
  ·refine cut_at (1) (some_in h) ?_
   exact weak_by
 rintro t1 rfl
 have h : _ = some _ := gt1
 refine ab0 ?_
 refine W.r_seq ?_
 refine ab0 ?_
 obtain ⟨zt2, h, gt2⟩ := bnd_some h
 refine W.r_cut (fun (t2 : (List (Int))) => ⟨[(6, .sl 1)], [(1, some (.arr 1 (List.map Gx.encI t2) true))], 1000⟩) (fun t => t = zt2) ?_ ?_
 ·refine avb ?_
  refine loop_lp (fun (p1 : (List (Int)) × Int) => ⟨[(3, .ptr 1 0 0), (5, .d (D.i t1)), (6, .sl 2), (13, .d (D.i v1.mLength)), (14, .d (D.i p1.2))], [(1, some (.box [.d (D.i v1.mNumber), .d (D.b v1.mDown), .d (D.i v1.mCell), .d (D.i v1.mLength)])), (2, some (.arr 1 (List.map Gx.encI p1.1) true))], 1000⟩) h ?_ ?_
  ·exact weak_by
  intro np1 p1 yp1 h hfp1
  unfold i_cells_L1 at h
  refine avb ?_
  refine brb h ?_ ?_<;>intro _ h
  ·refine app_sel h (app_ok (by (first|rfl|simp [sub])) (by (first|rfl|simp [sub])) (by decide)) (by (intro h; cases h)) (fun h => ?_)
   refine avb ?_
   exact lbk hfp1 h
  ·have h := finr hfp1 h
   refine cut_at (p1.1) (some_in h) ?_
   exact weak_by
 rintro t2 rfl
 have h : _ = some _ := gt2
 refine avb ?_
 cases h;exact eq_by

theorem i_layout_ok (N : Nat) (v0 : Gx.Grid) {r : (List (List (Int)))} (h : i_layout N v0 = some r) : Pure Try.prog 39 [DV.agg (Gx.Grid.enc v0)] (DV.one (D.sl 1 (List.map (Gx.encL 1 Gx.encI) r))) := by
 refine pure_of_walk Try.tok Try.mixed Try.func39 (by kernel_rfl) fun W => ?_
 unfold i_layout at h
 refine ab0 ?_
 refine W.r_seq ?_
 refine ab0 ?_
 refine W.r_seq ?_
 refine ab0 ?_
 obtain ⟨zt4, h, gt4⟩ := bnd_some h
 refine W.r_cut (fun (t4 : (List (List (Int)))) => ⟨[(3, .sl 1)], [(1, some (.arr 1 (List.map (Gx.encL 1 Gx.encI) t4) true))], 1000⟩) (fun t => t = zt4) ?_ ?_
 ·refine avb ?_
  refine plb ?_;refine call_sel (E := fun (x : (List (Gx.Slot))) => DV.one (D.sl 4 (List.map Gx.Slot.enc x))) h (fun x1 h1 => (i_SlotsOf_ok N v0 h1)) (fun x1 hx1 h => ?_)
  refine avb ?_
  refine lns (x1.length : Int) ?_
  refine avb ?_
  refine loop_lp (fun (p1 : (List (List (Int))) × Int) => ⟨[(1, .ptr 1 0 0), (3, .sl 2), (7, .sl 3), (8, .d (D.i (x1.length : Int))), (9, .d (D.i p1.2))], [(1, some (.box [.d (D.i v0.mRows), .d (D.i v0.mCols), .d (D.s v0.mCells)])), (2, some (.arr 1 (List.map (Gx.encL 1 Gx.encI) p1.1) true)), (3, some (.arr 4 (List.map Gx.Slot.enc x1) true))], 1000⟩) h ?_ ?_
  ·exact weak_by
  intro np1 p1 yp1 h hfp1
  unfold i_layout_L1 at h
  refine avb ?_
  refine brb h ?_ ?_<;>intro _ h
  ·refine idxp_sel h (fun x2 hx2 h => ?_)
   refine avb ?_
   refine ldp_sel hx2 ?_
   refine avb ?_
   refine plb ?_;refine call_sel (E := fun (x : (List (Int))) => DV.one (D.sl 1 (List.map Gx.encI x))) h (fun x3 h1 => (i_cells_ok N v0 x2 h1)) (fun x3 hx3 h => ?_)
   refine avb ?_
   refine app_sel h (app_ok (by (first|rfl|simp [sub])) (by (first|rfl|simp [sub])) (by decide)) (by (intro h; cases h)) (fun h => ?_)
   refine avb ?_
   exact lbk hfp1 h
  ·have h := finr hfp1 h
   refine cut_at (p1.1) (some_in h) ?_
   exact weak_by
 rintro t4 rfl
 have h : _ = some _ := gt4
 refine avb ?_
 cases h;exact eq_by

theorem i_readCells_ok (N : Nat) (v0 : List UInt8) (v1 : List (Int)) {r : (List UInt8)} (h : i_readCells N v0 v1 = some r) : Pure Try.prog 40 [DV.one (D.s v0), DV.one (D.sl 1 (List.map Gx.encI v1))] (DV.one (D.s r)) := by
 refine pure_of_walk Try.tok Try.mixed Try.func40 (by kernel_rfl) fun W => ?_
 unfold i_readCells at h
 refine ab0 ?_
 refine W.r_seq ?_
 refine ab0 ?_
 refine W.r_seq ?_
 refine ab0 ?_
 obtain ⟨zt2, h, gt2⟩ := bnd_some h
 refine W.r_cut (fun (t2 : (List (UInt8))) => ⟨[(5, .sl 1)], [(1, some (.arr 1 (List.map encU t2) true))], 1000⟩) (fun t => t = zt2) ?_ ?_
 ·refine avb ?_
  refine lns (v1.length : Int) ?_
  refine avb ?_
  refine loop_lp (fun (p1 : (List (UInt8)) × Int) => ⟨[(0, .d (D.s v0)), (5, .sl 1), (8, .d (D.sl 1 (List.map Gx.encI v1))), (9, .d (D.i (v1.length : Int))), (10, .d (D.i p1.2))], [(1, some (.arr 1 (List.map encU p1.1) true))], 1000⟩) h ?_ ?_
  ·exact weak_by
  intro np1 p1 yp1 h hfp1
  unfold i_readCells_L1 at h
  refine avb ?_
  refine brb h ?_ ?_<;>intro _ h
  ·refine idx_sel h (fun x1 hx1 h => ?_)
   refine avb ?_
   refine chk_sel h (fun q => q) (fun h => ?_)
   refine avb ?_
   refine app_sel h (app_ok (by (first|rfl|simp [sub])) (by (first|rfl|simp [sub])) (by decide)) (by (intro h; cases h)) (fun h => ?_)
   refine avb ?_
   exact lbk hfp1 h
  ·have h := finr hfp1 h
   refine cut_at (p1.1) (some_in h) ?_
   exact weak_by
 rintro t2 rfl
 have h : _ = some _ := gt2
 refine avb ?_
 refine ⟨t2, (by (exact eq_by)), ?_⟩
 refine avb ?_
 cases h;exact eq_by

theorem i_patterns_ok (N : Nat) (v0 : Gx.Grid) (v1 : List UInt8) {r : (List (List UInt8))} (h : i_patterns N v0 v1 = some r) : Pure Try.prog 23 [DV.agg (Gx.Grid.enc v0), DV.one (D.s v1)] (DV.one (D.sl 1 (List.map Gx.encS r))) := by
 refine pure_of_walk Try.tok Try.mixed Try.func23 (by kernel_rfl) fun W => ?_
 unfold i_patterns at h
 refine avb ?_
 refine plb ?_;refine call_sel (E := fun (x : Bool) => DV.one (D.b x)) h (fun x1 h1 => (i_IsFill_ok N v0 v1 h1)) (fun x1 hx1 h => ?_)
 refine avb ?_
 refine br_sel h (fun _ h => ?_) (fun _ h => ?_)
 ·refine avb ?_
  cases h;exact eq_by
 ·refine ab0 ?_
  refine W.r_seq ?_
  refine ab0 ?_
  obtain ⟨zt5, h, gt5⟩ := bnd_some h
  refine W.r_cut (fun (t5 : (List (List UInt8))) => ⟨[(5, .sl 1)], [(1, some (.arr 1 (List.map Gx.encS t5) true))], 1000⟩) (fun t => t = zt5) ?_ ?_
  ·refine avb ?_
   refine plb ?_;refine call_sel (E := fun (x : (List (List (Int)))) => DV.one (D.sl 1 (List.map (Gx.encL 1 Gx.encI) x))) h (fun x2 h1 => (i_layout_ok N v0 h1)) (fun x2 hx2 h => ?_)
   refine avb ?_
   refine lns (x2.length : Int) ?_
   refine avb ?_
   refine loop_lp (fun (p1 : (List (List UInt8)) × Int) => ⟨[(1, .d (D.s v1)), (5, .sl 1), (13, .sl 2), (14, .d (D.i (x2.length : Int))), (15, .d (D.i p1.2))], [(1, some (.arr 1 (List.map Gx.encS p1.1) true)), (2, some (.arr 1 (List.map (Gx.encL 1 Gx.encI) x2) true))], 1000⟩) h ?_ ?_
   ·exact weak_by
   intro np1 p1 yp1 h hfp1
   unfold i_patterns_L1 at h
   refine avb ?_
   refine brb h ?_ ?_<;>intro _ h
   ·refine idxp_sel h (fun x3 hx3 h => ?_)
    refine avb ?_
    refine ldp_sel hx3 ?_
    refine avb ?_
    refine plb ?_;refine call_sel (E := fun (x : (List UInt8)) => DV.one (D.s x)) h (fun x4 h1 => (i_readCells_ok N v1 x3 h1)) (fun x4 hx4 h => ?_)
    refine avb ?_
    refine app_sel h (app_ok (by (first|rfl|simp [sub])) (by (first|rfl|simp [sub])) (by decide)) (by (intro h; cases h)) (fun h => ?_)
    refine avb ?_
    exact lbk hfp1 h
   ·have h := finr hfp1 h
    refine cut_at (p1.1) (some_in h) ?_
    exact weak_by
  rintro t5 rfl
  have h : _ = some _ := gt5
  refine avb ?_
  cases h;exact eq_by

theorem i_openIn_ok (N : Nat) (v0 : List UInt8) {r : Int} (h : i_openIn N v0 = some r) : Pure Try.prog 24 [DV.one (D.s v0)] (DV.one (D.i r)) := by
 refine pure_of_walk Try.tok Try.mixed Try.func24 (by kernel_rfl) fun W => ?_
 unfold i_openIn at h
 refine ab0 ?_
 refine W.r_seq ?_
 refine ab0 ?_
 refine W.r_seq ?_
 refine ab0 ?_
 obtain ⟨zt1, h, gt1⟩ := bnd_some h
 refine W.r_cut (fun (t1 : Int) => ⟨[(3, .d (D.i t1))], [], 1000⟩) (fun t => t = zt1) ?_ ?_
 ·refine avb ?_
  refine lns (v0.length : Int) ?_
  refine avb ?_
  refine loop_lp (fun (p1 : Int × Int) => ⟨[(0, .d (D.s v0)), (3, .d (D.i p1.1)), (6, .d (D.i (v0.length : Int))), (7, .d (D.i p1.2))], [], 1000⟩) h ?_ ?_
  ·exact weak_by
  intro np1 p1 yp1 h hfp1
  unfold i_openIn_L1 at h
  refine avb ?_
  refine brb h ?_ ?_<;>intro _ h
  ·refine chk_sel h (fun q => q) (fun h => ?_)
   refine avb ?_
   refine brb h ?_ ?_<;>intro _ h
   ·exact lbk hfp1 h
   ·exact lbk hfp1 h
  ·have h := finr hfp1 h
   refine cut_at (p1.1) (some_in h) ?_
   exact weak_by
 rintro t1 rfl
 have h : _ = some _ := gt1
 refine avb ?_
 cases h;exact eq_by

theorem i_copyClue_ok (N : Nat) (v0 : Gx.Clue) {r : Gx.Clue} (h : i_copyClue N v0 = some r) : Pure Try.prog 25 [DV.agg (Gx.Clue.enc v0)] (DV.agg (Gx.Clue.enc r)) := by
 refine pure_of_walk Try.tok Try.mixed Try.func25 (by kernel_rfl) fun W => ?_
 unfold i_copyClue at h
 refine avb ?_
 refine plb ?_;refine call_sel (E := fun (x : (List (Gx.Step))) => DV.one (D.sl 4 (List.map Gx.Step.enc x))) h (fun x1 h1 => (g_slices_Clone_Simpl_Step_impl_Step_ok N v0.mPlay h1)) (fun x1 hx1 h => ?_)
 refine avb ?_
 cases h;exact eq_by

theorem i_DeskEvents_ok (N : Nat) (v0 : Gx.Grid) (v1 : List UInt8) (v2 : List (Gx.Clue)) {r : (List (Gx.Event))} (h : i_DeskEvents N v0 v1 v2 = some r) : Pure Try.prog 9 [DV.agg (Gx.Grid.enc v0), DV.one (D.s v1), DV.one (D.sl 2 (List.map Gx.Clue.enc v2))] (DV.one (D.sl 16 (List.map Gx.Event.enc r))) := by
 refine pure_of_walk Try.tok Try.mixed Try.func9 (by kernel_rfl) fun W => ?_
 unfold i_DeskEvents at h
 refine avb ?_
 refine plb ?_;refine call_sel (E := fun (x : Bool) => DV.one (D.b x)) h (fun x1 h1 => (i_IsFill_ok N v0 v1 h1)) (fun x1 hx1 h => ?_)
 refine avb ?_
 refine br_sel h (fun _ h => ?_) (fun _ h => ?_)
 ·refine avb ?_
  cases h;exact eq_by
 ·refine ab0 ?_
  obtain ⟨zt5, h, gt5⟩ := bnd_some h
  refine W.r_cut (fun (t5 : (List (Gx.Event))) => ⟨[(2, .d (D.sl 2 (List.map Gx.Clue.enc v2))), (7, .sl 1)], [(1, some (.arr 16 (List.map Gx.Event.enc t5) true))], 1000⟩) (fun t => t = zt5) ?_ ?_
  ·refine avb ?_
   refine plb ?_;refine call_sel (E := fun (x : (List (List UInt8))) => DV.one (D.sl 1 (List.map Gx.encS x))) h (fun x2 h1 => (i_patterns_ok N v0 v1 h1)) (fun x2 hx2 h => ?_)
   refine avb ?_
   refine lns (x2.length : Int) ?_
   refine avb ?_
   refine loop_lp (fun (p1 : (List (Gx.Event)) × Int) => ⟨[(2, .d (D.sl 2 (List.map Gx.Clue.enc v2))), (7, .sl 1), (22, .sl 2), (23, .d (D.i (x2.length : Int))), (24, .d (D.i p1.2))], [(1, some (.arr 16 (List.map Gx.Event.enc p1.1) true)), (2, some (.arr 1 (List.map Gx.encS x2) true))], 1000⟩) h ?_ ?_
   ·exact weak_by
   intro np1 p1 yp1 h hfp1
   unfold i_DeskEvents_L1 at h
   refine avb ?_
   refine brb h ?_ ?_<;>intro _ h
   ·refine idxp_sel h (fun x3 hx3 h => ?_)
    refine avb ?_
    refine ldp_sel hx3 ?_
    refine avb ?_
    refine plb ?_;refine call_sel (E := fun (x : Int) => DV.one (D.i x)) h (fun x4 h1 => (i_openIn_ok N x3 h1)) (fun x4 hx4 h => ?_)
    refine avb ?_
    refine brb h ?_ ?_<;>intro _ h
    ·refine app_sel h (app_ok (by (first|rfl|simp [sub])) (by (first|rfl|simp [sub])) (by decide)) (by (intro h; cases h)) (fun h => ?_)
     refine avb ?_
     exact lbk hfp1 h
    ·exact lbk hfp1 h
   ·have h := finr hfp1 h
    refine cut_at (p1.1) (some_in h) ?_
    exact weak_by
  rintro t5 rfl
  have h : _ = some _ := gt5
  refine ab0 ?_
  obtain ⟨zt8, h, gt8⟩ := bnd_some h
  refine W.r_cut (fun (t8 : (List (Gx.Event))) => ⟨[(7, .sl 1)], [(1, some (.arr 16 (List.map Gx.Event.enc t8) true))], 1000⟩) (fun t => t = zt8) ?_ ?_
  ·refine avb ?_
   refine lns (v2.length : Int) ?_
   refine avb ?_
   refine loop_lp (fun (p2 : (List (Gx.Event)) × Int) => ⟨[(7, .sl 1), (39, .d (D.sl 2 (List.map Gx.Clue.enc v2))), (40, .d (D.i (v2.length : Int))), (41, .d (D.i p2.2))], [(1, some (.arr 16 (List.map Gx.Event.enc p2.1) true))], 1000⟩) h ?_ ?_
   ·exact weak_by
   intro np2 p2 yp2 h hfp2
   unfold i_DeskEvents_L2 at h
   refine avb ?_
   refine brb h ?_ ?_<;>intro _ h
   ·refine idx_sel h (fun x6 hx6 h => ?_)
    refine avb ?_
    refine plb ?_;refine call_sel (E := fun (x : Gx.Clue) => DV.agg (Gx.Clue.enc x)) h (fun x7 h1 => (i_copyClue_ok N x6 h1)) (fun x7 hx7 h => ?_)
    refine avb ?_
    refine app_sel h (app_ok (by (first|rfl|simp [sub])) (by (first|rfl|simp [sub])) (by decide)) (by (intro h; cases h)) (fun h => ?_)
    refine avb ?_
    exact lbk hfp2 h
   ·have h := finr hfp2 h
    refine cut_at (p2.1) (some_in h) ?_
    exact weak_by
  rintro t8 rfl
  have h : _ = some _ := gt8
  refine avb ?_
  cases h;exact eq_by

theorem l_eqGrid_ok (N : Nat) (v0 : Gx.Grid) (v1 : Gx.Grid) {r : Bool} (h : l_eqGrid N v0 v1 = some r) : Pure Try.prog 42 [DV.agg (Gx.Grid.enc v0), DV.agg (Gx.Grid.enc v1)] (DV.one (D.b r)) := by
 refine pure_of_walk Try.tok Try.mixed Try.func42 (by kernel_rfl) fun W => ?_
 unfold l_eqGrid at h
 refine avb ?_
 refine brb h ?_ ?_<;>intro _ h
 ·cases h;exact eq_by
 ·refine brb h ?_ ?_<;>intro _ h
  ·cases h;exact eq_by
  ·refine brb h ?_ ?_<;>intro _ h
   ·cases h;exact eq_by
   ·cases h;exact eq_by

theorem l_eqStep_ok (N : Nat) (v0 : Gx.Step) (v1 : Gx.Step) {r : Bool} (h : l_eqStep N v0 v1 = some r) : Pure Try.prog 51 [DV.agg (Gx.Step.enc v0), DV.agg (Gx.Step.enc v1)] (DV.one (D.b r)) := by
 refine pure_of_walk Try.tok Try.mixed Try.func51 (by kernel_rfl) fun W => ?_
 unfold l_eqStep at h
 refine avb ?_
 refine brb h ?_ ?_<;>intro _ h
 ·cases h;exact eq_by
 ·refine brb h ?_ ?_<;>intro _ h
  ·cases h;exact eq_by
  ·refine brb h ?_ ?_<;>intro _ h
   ·cases h;exact eq_by
   ·refine brb h ?_ ?_<;>intro _ h
    ·cases h;exact eq_by
    ·cases h;exact eq_by

theorem l_eqStepS_ok (N : Nat) (v0 : List (Gx.Step)) (v1 : List (Gx.Step)) {r : Bool} (h : l_eqStepS N v0 v1 = some r) : Pure Try.prog 45 [DV.one (D.sl 4 (List.map Gx.Step.enc v0)), DV.one (D.sl 4 (List.map Gx.Step.enc v1))] (DV.one (D.b r)) := by
 refine pure_of_walk Try.tok Try.mixed Try.func45 (by kernel_rfl) fun W => ?_
 unfold l_eqStepS at h
 refine avb ?_
 refine lns (v0.length : Int) ?_
 refine avb ?_
 refine lns (v1.length : Int) ?_
 refine avb ?_
 refine br_sel h (fun _ h => ?_) (fun _ h => ?_)
 ·refine avb ?_
  cases h;exact eq_by
 ·refine ab0 ?_
  obtain ⟨zt4, h, gt4⟩ := cutb_some h
  refine W.r_cut (fun (t4 : Unit) => ⟨[], [], 1000⟩) (fun t => .nx t = zt4) ?_ ?_
  ·refine avb ?_
   refine loop_lp (fun (p1 : Int) => ⟨[(0, .d (D.sl 4 (List.map Gx.Step.enc v0))), (1, .d (D.sl 4 (List.map Gx.Step.enc v1))), (5, .d (D.i p1))], [], 1000⟩) h ?_ ?_
   ·exact weak_by
   intro np1 p1 yp1 h hfp1
   unfold l_eqStepS_L1 at h
   refine avb ?_
   refine lns (v0.length : Int) ?_
   refine avb ?_
   refine brb h ?_ ?_<;>intro _ h
   ·refine idx_sel h (fun x1 hx1 h => ?_)
    refine avb ?_
    refine idx_sel h (fun x2 hx2 h => ?_)
    refine avb ?_
    refine plb ?_;refine call_sel (E := fun (x : Bool) => DV.one (D.b x)) h (fun x3 h1 => (l_eqStep_ok N x1 x2 h1)) (fun x3 hx3 h => ?_)
    refine avb ?_
    refine brb h ?_ ?_<;>intro _ h
    ·have h := finr hfp1 h
     have h := cutr gt4 h
     cases h;exact eq_by
    ·exact lbk hfp1 h
   ·have h := finr hfp1 h
    refine cut_at (()) (some_in h) ?_
    exact weak_by
  rintro t4 rfl
  have h : _ = some _ := gt4
  refine avb ?_
  cases h;exact eq_by

theorem l_eqClue_ok (N : Nat) (v0 : Gx.Clue) (v1 : Gx.Clue) {r : Bool} (h : l_eqClue N v0 v1 = some r) : Pure Try.prog 27 [DV.agg (Gx.Clue.enc v0), DV.agg (Gx.Clue.enc v1)] (DV.one (D.b r)) := by
 refine pure_of_walk Try.tok Try.mixed Try.func27 (by kernel_rfl) fun W => ?_
 unfold l_eqClue at h
 refine avb ?_
 refine brb h ?_ ?_<;>intro _ h
 ·cases h;exact eq_by
 ·refine plb ?_;refine call_sel (E := fun (x : Bool) => DV.one (D.b x)) h (fun x1 h1 => (l_eqStepS_ok N v0.mPlay v1.mPlay h1)) (fun x1 hx1 h => ?_)
  refine avb ?_
  refine brb h ?_ ?_<;>intro _ h
  ·cases h;exact eq_by
  ·cases h;exact eq_by

theorem l_eqListed_ok (N : Nat) (v0 : Gx.Listed) (v1 : Gx.Listed) {r : Bool} (h : l_eqListed N v0 v1 = some r) : Pure Try.prog 43 [DV.agg (Gx.Listed.enc v0), DV.agg (Gx.Listed.enc v1)] (DV.one (D.b r)) := by
 refine pure_of_walk Try.tok Try.mixed Try.func43 (by kernel_rfl) fun W => ?_
 unfold l_eqListed at h
 refine avb ?_
 refine brb h ?_ ?_<;>intro _ h
 ·cases h;exact eq_by
 ·refine brb h ?_ ?_<;>intro _ h
  ·cases h;exact eq_by
  ·refine brb h ?_ ?_<;>intro _ h
   ·cases h;exact eq_by
   ·refine brb h ?_ ?_<;>intro _ h
    ·cases h;exact eq_by
    ·cases h;exact eq_by

theorem l_eqMeaning_ok (N : Nat) (v0 : Gx.Meaning) (v1 : Gx.Meaning) {r : Bool} (h : l_eqMeaning N v0 v1 = some r) : Pure Try.prog 44 [DV.agg (Gx.Meaning.enc v0), DV.agg (Gx.Meaning.enc v1)] (DV.one (D.b r)) := by
 refine pure_of_walk Try.tok Try.mixed Try.func44 (by kernel_rfl) fun W => ?_
 unfold l_eqMeaning at h
 refine avb ?_
 refine brb h ?_ ?_<;>intro _ h
 ·cases h;exact eq_by
 ·refine brb h ?_ ?_<;>intro _ h
  ·cases h;exact eq_by
  ·cases h;exact eq_by

theorem l_eqEvent_ok (N : Nat) (v0 : Gx.Event) (v1 : Gx.Event) {r : Bool} (h : l_eqEvent N v0 v1 = some r) : Pure Try.prog 26 [DV.agg (Gx.Event.enc v0), DV.agg (Gx.Event.enc v1)] (DV.one (D.b r)) := by
 refine pure_of_walk Try.tok Try.mixed Try.func26 (by kernel_rfl) fun W => ?_
 unfold l_eqEvent at h
 refine avb ?_
 refine brb h ?_ ?_<;>intro _ h
 ·cases h;exact eq_by
 ·refine brb h ?_ ?_<;>intro _ h
  ·cases h;exact eq_by
  ·refine brb h ?_ ?_<;>intro _ h
   ·cases h;exact eq_by
   ·refine brb h ?_ ?_<;>intro _ h
    ·cases h;exact eq_by
    ·refine brb h ?_ ?_<;>intro _ h
     ·cases h;exact eq_by
     ·refine plb ?_;refine call_sel (E := fun (x : Bool) => DV.one (D.b x)) h (fun x1 h1 => (l_eqGrid_ok N v0.mGrid v1.mGrid h1)) (fun x1 hx1 h => ?_)
      refine avb ?_
      refine brb h ?_ ?_<;>intro _ h
      ·cases h;exact eq_by
      ·refine plb ?_;refine call_sel (E := fun (x : Bool) => DV.one (D.b x)) h (fun x2 h1 => (l_eqClue_ok N v0.mClue v1.mClue h1)) (fun x2 hx2 h => ?_)
       refine avb ?_
       refine brb h ?_ ?_<;>intro _ h
       ·cases h;exact eq_by
       ·refine plb ?_;refine call_sel (E := fun (x : Bool) => DV.one (D.b x)) h (fun x3 h1 => (l_eqListed_ok N v0.mListed v1.mListed h1)) (fun x3 hx3 h => ?_)
        refine avb ?_
        refine brb h ?_ ?_<;>intro _ h
        ·cases h;exact eq_by
        ·refine plb ?_;refine call_sel (E := fun (x : Bool) => DV.one (D.b x)) h (fun x4 h1 => (l_eqMeaning_ok N v0.mMeaning v1.mMeaning h1)) (fun x4 hx4 h => ?_)
         refine avb ?_
         refine brb h ?_ ?_<;>intro _ h
         ·cases h;exact eq_by
         ·cases h;exact eq_by

theorem l_eqEventS_ok (N : Nat) (v0 : List (Gx.Event)) (v1 : List (Gx.Event)) {r : Bool} (h : l_eqEventS N v0 v1 = some r) : Pure Try.prog 10 [DV.one (D.sl 16 (List.map Gx.Event.enc v0)), DV.one (D.sl 16 (List.map Gx.Event.enc v1))] (DV.one (D.b r)) := by
 refine pure_of_walk Try.tok Try.mixed Try.func10 (by kernel_rfl) fun W => ?_
 unfold l_eqEventS at h
 refine avb ?_
 refine lns (v0.length : Int) ?_
 refine avb ?_
 refine lns (v1.length : Int) ?_
 refine avb ?_
 refine br_sel h (fun _ h => ?_) (fun _ h => ?_)
 ·refine avb ?_
  cases h;exact eq_by
 ·refine ab0 ?_
  obtain ⟨zt4, h, gt4⟩ := cutb_some h
  refine W.r_cut (fun (t4 : Unit) => ⟨[], [], 1000⟩) (fun t => .nx t = zt4) ?_ ?_
  ·refine avb ?_
   refine loop_lp (fun (p1 : Int) => ⟨[(0, .d (D.sl 16 (List.map Gx.Event.enc v0))), (1, .d (D.sl 16 (List.map Gx.Event.enc v1))), (5, .d (D.i p1))], [], 1000⟩) h ?_ ?_
   ·exact weak_by
   intro np1 p1 yp1 h hfp1
   unfold l_eqEventS_L1 at h
   refine avb ?_
   refine lns (v0.length : Int) ?_
   refine avb ?_
   refine brb h ?_ ?_<;>intro _ h
   ·refine idx_sel h (fun x1 hx1 h => ?_)
    refine avb ?_
    refine idx_sel h (fun x2 hx2 h => ?_)
    refine avb ?_
    refine plb ?_;refine call_sel (E := fun (x : Bool) => DV.one (D.b x)) h (fun x3 h1 => (l_eqEvent_ok N x1 x2 h1)) (fun x3 hx3 h => ?_)
    refine avb ?_
    refine brb h ?_ ?_<;>intro _ h
    ·have h := finr hfp1 h
     have h := cutr gt4 h
     cases h;exact eq_by
    ·exact lbk hfp1 h
   ·have h := finr hfp1 h
    refine cut_at (()) (some_in h) ?_
    exact weak_by
  rintro t4 rfl
  have h : _ = some _ := gt4
  refine avb ?_
  cases h;exact eq_by

theorem l_eqClueS_ok (N : Nat) (v0 : List (Gx.Clue)) (v1 : List (Gx.Clue)) {r : Bool} (h : l_eqClueS N v0 v1 = some r) : Pure Try.prog 11 [DV.one (D.sl 2 (List.map Gx.Clue.enc v0)), DV.one (D.sl 2 (List.map Gx.Clue.enc v1))] (DV.one (D.b r)) := by
 refine pure_of_walk Try.tok Try.mixed Try.func11 (by kernel_rfl) fun W => ?_
 unfold l_eqClueS at h
 refine avb ?_
 refine lns (v0.length : Int) ?_
 refine avb ?_
 refine lns (v1.length : Int) ?_
 refine avb ?_
 refine br_sel h (fun _ h => ?_) (fun _ h => ?_)
 ·refine avb ?_
  cases h;exact eq_by
 ·refine ab0 ?_
  obtain ⟨zt4, h, gt4⟩ := cutb_some h
  refine W.r_cut (fun (t4 : Unit) => ⟨[], [], 1000⟩) (fun t => .nx t = zt4) ?_ ?_
  ·refine avb ?_
   refine loop_lp (fun (p1 : Int) => ⟨[(0, .d (D.sl 2 (List.map Gx.Clue.enc v0))), (1, .d (D.sl 2 (List.map Gx.Clue.enc v1))), (5, .d (D.i p1))], [], 1000⟩) h ?_ ?_
   ·exact weak_by
   intro np1 p1 yp1 h hfp1
   unfold l_eqClueS_L1 at h
   refine avb ?_
   refine lns (v0.length : Int) ?_
   refine avb ?_
   refine brb h ?_ ?_<;>intro _ h
   ·refine idx_sel h (fun x1 hx1 h => ?_)
    refine avb ?_
    refine idx_sel h (fun x2 hx2 h => ?_)
    refine avb ?_
    refine plb ?_;refine call_sel (E := fun (x : Bool) => DV.one (D.b x)) h (fun x3 h1 => (l_eqClue_ok N x1 x2 h1)) (fun x3 hx3 h => ?_)
    refine avb ?_
    refine brb h ?_ ?_<;>intro _ h
    ·have h := finr hfp1 h
     have h := cutr gt4 h
     cases h;exact eq_by
    ·exact lbk hfp1 h
   ·have h := finr hfp1 h
    refine cut_at (()) (some_in h) ?_
    exact weak_by
  rintro t4 rfl
  have h : _ = some _ := gt4
  refine avb ?_
  cases h;exact eq_by

theorem l_markText_ok (N : Nat) (v0 : Int) {r : (List UInt8)} (h : l_markText N v0 = some r) : Pure Try.prog 29 [DV.one (D.i v0)] (DV.one (D.s r)) := by
 refine pure_of_walk Try.tok Try.mixed Try.func29 (by kernel_rfl) fun W => ?_
 unfold l_markText at h
 refine avb ?_
 refine br_sel h (fun _ h => ?_) (fun _ h => ?_)
 ·refine avb ?_
  cases h;exact eq_by
 ·refine ab0 ?_
  refine W.r_seq ?_
  refine ab0 ?_
  obtain ⟨zt1, h, gt1⟩ := bnd_some h
  refine W.r_cut (fun (t1 : (List UInt8)) => ⟨[(3, .d (D.s t1))], [], 1000⟩) (fun t => t = zt1) ?_ ?_
  ·refine avb ?_
   refine loop_lp (fun (p1 : Int × (List UInt8)) => ⟨[(0, .d (D.i p1.1)), (3, .d (D.s p1.2))], [], 1000⟩) h ?_ ?_
   ·exact weak_by
   intro np1 p1 yp1 h hfp1
   unfold l_markText_L1 at h
   refine avb ?_
   refine brb h ?_ ?_<;>intro _ h
   ·refine chk_sel h (fun q => q) (fun h => ?_)
    refine avb ?_
    refine ⟨[UInt8.ofInt (IntKind.u8.wrap (w64 (48 + (Int.tmod p1.1 10))))], (by (exact eq_by)), ?_⟩
    refine avb ?_
    refine chk_sel h (fun q => Nat.le_trans q (by decide)) (fun h => ?_)
    refine avb ?_
    refine chk_sel h (fun q => q) (fun h => ?_)
    refine avb ?_
    exact lbk hfp1 h
   ·have h := finr hfp1 h
    refine cut_at (p1.2) (some_in h) ?_
    exact weak_by
  rintro t1 rfl
  have h : _ = some _ := gt1
  refine avb ?_
  refine chk_sel h (fun q => Nat.le_trans q (by decide)) (fun h => ?_)
  refine avb ?_
  cases h;exact eq_by

theorem l_markStepS_ok (N : Nat) (v0 : List (Gx.Step)) (v1 : Int) {r : (List (Gx.Step)) × Int} (h : l_markStepS N v0 v1 = some r) : Turn Try.prog 28 [.sl 0, .d (D.i v1)] [.deep 4 (List.map Gx.Step.enc v0)] [some (.deep 4 (List.map Gx.Step.enc r.1))] (.d (D.i r.2)) := by
 refine turn_of_walk Try.tok Try.mixed Try.func28 (by kernel_rfl) rfl fun W => ?_
 unfold l_markStepS at h
 refine ab0 ?_
 refine W.r_seq ?_
 refine ab0 ?_
 obtain ⟨zt6, h, gt6⟩ := bnd_some h
 refine W.r_cut (fun (t6 : (List (Gx.Step)) × Int) => ⟨[(1, .d (D.i t6.2))], [(1, some (.deep 4 (List.map Gx.Step.enc t6.1))), (990, some (.pin [.sl 1]))], 1000⟩) (fun t => t = zt6) ?_ ?_
 ·refine avb ?_
  refine loop_lp (fun (p1 : (List (Gx.Step)) × Int × Int) => ⟨[(0, .sl 1), (1, .d (D.i p1.2.1)), (5, .d (D.i p1.2.2))], [(1, some (.deep 4 (List.map Gx.Step.enc p1.1))), (990, some (.pin [.sl 1]))], 1000⟩) h ?_ ?_
  ·exact weak_by
  intro np1 p1 yp1 h hfp1
  unfold l_markStepS_L1 at h
  refine avb ?_
  refine lns (p1.1.length : Int) ?_
  refine avb ?_
  refine brb h ?_ ?_<;>intro _ h
  ·refine idxp_sel h (fun x1 hx1 h => ?_)
   refine avb ?_
   refine ldp_sel hx1 ?_
   refine avb ?_
   refine plb ?_;refine call_sel (E := fun (x : (List UInt8)) => DV.one (D.s x)) h (fun x2 h1 => (l_markText_ok N (w64 (p1.2.1 + 1)) h1)) (fun x2 hx2 h => ?_)
   refine avb ?_
   refine idxp_raw (show _ = List.map Gx.Step.enc (List.set p1.1 (Int.toNat p1.2.2) (⟨p1.2.1, x1.mWord, x1.mA, x1.mB⟩ : Gx.Step)) by (exact eq_by)) h (fun x3 hx3 h => ?_)
   refine avb ?_
   refine ldp_raw (show _ = List.map Gx.Step.enc (List.set p1.1 (Int.toNat p1.2.2) (⟨p1.2.1, x1.mWord, x1.mA, x1.mB⟩ : Gx.Step)) by (exact eq_by)) hx3 ?_
   refine avb ?_
   refine idxp_raw (show _ = List.map Gx.Step.enc (List.set p1.1 (Int.toNat p1.2.2) (⟨x3.mKind, x2, x3.mA, x3.mB⟩ : Gx.Step)) by (exact eq_by)) h (fun x4 hx4 h => ?_)
   refine avb ?_
   refine ldp_raw (show _ = List.map Gx.Step.enc (List.set p1.1 (Int.toNat p1.2.2) (⟨x3.mKind, x2, x3.mA, x3.mB⟩ : Gx.Step)) by (exact eq_by)) hx4 ?_
   refine avb ?_
   refine idxp_raw (show _ = List.map Gx.Step.enc (List.set p1.1 (Int.toNat p1.2.2) (⟨x4.mKind, x4.mWord, w64 ((w64 (p1.2.1 + 1)) + 1), x4.mB⟩ : Gx.Step)) by (exact eq_by)) h (fun x5 hx5 h => ?_)
   refine avb ?_
   refine ldp_raw (show _ = List.map Gx.Step.enc (List.set p1.1 (Int.toNat p1.2.2) (⟨x4.mKind, x4.mWord, w64 ((w64 (p1.2.1 + 1)) + 1), x4.mB⟩ : Gx.Step)) by (exact eq_by)) hx5 ?_
   refine avb ?_
   exact lbk hfp1 h
  ·have h := finr hfp1 h
   refine cut_at ((p1.1, p1.2.1)) (some_in h) ?_
   exact weak_by
 rintro t6 rfl
 have h : _ = some _ := gt6
 refine avb ?_
 obtain rfl := some_in h
 exact ⟨cons_eq (some_deep (by (exact eq_by))) (rfl), by (exact eq_by)⟩

theorem l_markClueS_ok (N : Nat) (v0 : List (Gx.Clue)) (v1 : Int) {r : (List (Gx.Clue)) × Int} (h : l_markClueS N v0 v1 = some r) : Turn Try.prog 12 [.sl 0, .d (D.i v1)] [.deep 2 (List.map Gx.Clue.enc v0)] [some (.deep 2 (List.map Gx.Clue.enc r.1))] (.d (D.i r.2)) := by
 refine turn_of_walk Try.tok Try.mixed Try.func12 (by kernel_rfl) rfl fun W => ?_
 unfold l_markClueS at h
 refine ab0 ?_
 refine W.r_seq ?_
 refine ab0 ?_
 obtain ⟨zt4, h, gt4⟩ := bnd_some h
 refine W.r_cut (fun (t4 : (List (Gx.Clue)) × Int) => ⟨[(1, .d (D.i t4.2))], [(1, some (.deep 2 (List.map Gx.Clue.enc t4.1))), (990, some (.pin [.sl 1]))], 1000⟩) (fun t => t = zt4) ?_ ?_
 ·refine avb ?_
  refine loop_lp (fun (p1 : (List (Gx.Clue)) × Int × Int) => ⟨[(0, .sl 1), (1, .d (D.i p1.2.1)), (5, .d (D.i p1.2.2))], [(1, some (.deep 2 (List.map Gx.Clue.enc p1.1))), (990, some (.pin [.sl 1]))], 1000⟩) h ?_ ?_
  ·exact weak_by
  intro np1 p1 yp1 h hfp1
  unfold l_markClueS_L1 at h
  refine avb ?_
  refine lns (p1.1.length : Int) ?_
  refine avb ?_
  refine brb h ?_ ?_<;>intro _ h
  ·refine idxp_sel h (fun x1 hx1 h => ?_)
   refine avb ?_
   refine ldp_sel hx1 ?_
   refine avb ?_
   refine idxp_raw (show _ = List.map Gx.Clue.enc (List.set p1.1 (Int.toNat p1.2.2) (⟨p1.2.1, x1.mPlay⟩ : Gx.Clue)) by (exact eq_by)) h (fun x2 hx2 h => ?_)
   refine avb ?_
   refine ldp_raw (show _ = List.map Gx.Clue.enc (List.set p1.1 (Int.toNat p1.2.2) (⟨p1.2.1, x1.mPlay⟩ : Gx.Clue)) by (exact eq_by)) hx2 ?_
   refine avb ?_
   refine clb ?_;refine ldp_raw (show _ = List.map Gx.Clue.enc (List.set p1.1 (Int.toNat p1.2.2) (⟨p1.2.1, x1.mPlay⟩ : Gx.Clue)) by (exact eq_by)) hx2 ?_;refine whb ?_;refine cturn_sel (R := fun (x3 : (List (Gx.Step)) × Int) => List.map Gx.Step.enc x3.1) (X := fun (x3 : (List (Gx.Step)) × Int) => Value.int .i64 x3.2) h (fun x3 h1 => (l_markStepS_ok N x2.mPlay (w64 (p1.2.1 + 1)) h1)) (fun x3 hx3 h => ?_)
   refine avb ?_
   exact lbk hfp1 h
  ·have h := finr hfp1 h
   refine cut_at ((p1.1, p1.2.1)) (some_in h) ?_
   exact weak_by
 rintro t4 rfl
 have h : _ = some _ := gt4
 refine avb ?_
 obtain rfl := some_in h
 exact ⟨cons_eq (some_deep (by (exact eq_by))) (rfl), by (exact eq_by)⟩

theorem l_markEventS_ok (N : Nat) (v0 : List (Gx.Event)) (v1 : Int) {r : (List (Gx.Event)) × Int} (h : l_markEventS N v0 v1 = some r) : Turn Try.prog 13 [.sl 0, .d (D.i v1)] [.deep 16 (List.map Gx.Event.enc v0)] [some (.deep 16 (List.map Gx.Event.enc r.1))] (.d (D.i r.2)) := by
 refine turn_of_walk Try.tok Try.mixed Try.func13 (by kernel_rfl) rfl fun W => ?_
 unfold l_markEventS at h
 refine ab0 ?_
 refine W.r_seq ?_
 refine ab0 ?_
 obtain ⟨zt22, h, gt22⟩ := bnd_some h
 refine W.r_cut (fun (t22 : (List (Gx.Event)) × Int) => ⟨[(1, .d (D.i t22.2))], [(1, some (.deep 16 (List.map Gx.Event.enc t22.1))), (990, some (.pin [.sl 1]))], 1000⟩) (fun t => t = zt22) ?_ ?_
 ·refine avb ?_
  refine loop_lp (fun (p1 : (List (Gx.Event)) × Int × Int) => ⟨[(0, .sl 1), (1, .d (D.i p1.2.1)), (5, .d (D.i p1.2.2))], [(1, some (.deep 16 (List.map Gx.Event.enc p1.1))), (990, some (.pin [.sl 1]))], 1000⟩) h ?_ ?_
  ·exact weak_by
  intro np1 p1 yp1 h hfp1
  unfold l_markEventS_L1 at h
  refine avb ?_
  refine lns (p1.1.length : Int) ?_
  refine avb ?_
  refine brb h ?_ ?_<;>intro _ h
  ·refine idxp_sel h (fun x1 hx1 h => ?_)
   refine avb ?_
   refine ldp_sel hx1 ?_
   refine avb ?_
   refine idxp_raw (show _ = List.map Gx.Event.enc (List.set p1.1 (Int.toNat p1.2.2) (⟨p1.2.1, x1.mA, x1.mB, x1.mC, x1.mText, (⟨x1.mGrid.mRows, x1.mGrid.mCols, x1.mGrid.mCells⟩ : Gx.Grid), (⟨x1.mClue.mSense, x1.mClue.mPlay⟩ : Gx.Clue), (⟨x1.mListed.mWord, x1.mListed.mFrom, x1.mListed.mUntil, x1.mListed.mScore⟩ : Gx.Listed), (⟨x1.mMeaning.mWord, x1.mMeaning.mSense⟩ : Gx.Meaning)⟩ : Gx.Event)) by (exact eq_by)) h (fun x2 hx2 h => ?_)
   refine avb ?_
   refine ldp_raw (show _ = List.map Gx.Event.enc (List.set p1.1 (Int.toNat p1.2.2) (⟨p1.2.1, x1.mA, x1.mB, x1.mC, x1.mText, (⟨x1.mGrid.mRows, x1.mGrid.mCols, x1.mGrid.mCells⟩ : Gx.Grid), (⟨x1.mClue.mSense, x1.mClue.mPlay⟩ : Gx.Clue), (⟨x1.mListed.mWord, x1.mListed.mFrom, x1.mListed.mUntil, x1.mListed.mScore⟩ : Gx.Listed), (⟨x1.mMeaning.mWord, x1.mMeaning.mSense⟩ : Gx.Meaning)⟩ : Gx.Event)) by (exact eq_by)) hx2 ?_
   refine avb ?_
   refine idxp_raw (show _ = List.map Gx.Event.enc (List.set p1.1 (Int.toNat p1.2.2) (⟨x2.mKind, w64 (p1.2.1 + 1), x2.mB, x2.mC, x2.mText, (⟨x2.mGrid.mRows, x2.mGrid.mCols, x2.mGrid.mCells⟩ : Gx.Grid), (⟨x2.mClue.mSense, x2.mClue.mPlay⟩ : Gx.Clue), (⟨x2.mListed.mWord, x2.mListed.mFrom, x2.mListed.mUntil, x2.mListed.mScore⟩ : Gx.Listed), (⟨x2.mMeaning.mWord, x2.mMeaning.mSense⟩ : Gx.Meaning)⟩ : Gx.Event)) by (exact eq_by)) h (fun x3 hx3 h => ?_)
   refine avb ?_
   refine ldp_raw (show _ = List.map Gx.Event.enc (List.set p1.1 (Int.toNat p1.2.2) (⟨x2.mKind, w64 (p1.2.1 + 1), x2.mB, x2.mC, x2.mText, (⟨x2.mGrid.mRows, x2.mGrid.mCols, x2.mGrid.mCells⟩ : Gx.Grid), (⟨x2.mClue.mSense, x2.mClue.mPlay⟩ : Gx.Clue), (⟨x2.mListed.mWord, x2.mListed.mFrom, x2.mListed.mUntil, x2.mListed.mScore⟩ : Gx.Listed), (⟨x2.mMeaning.mWord, x2.mMeaning.mSense⟩ : Gx.Meaning)⟩ : Gx.Event)) by (exact eq_by)) hx3 ?_
   refine avb ?_
   refine idxp_raw (show _ = List.map Gx.Event.enc (List.set p1.1 (Int.toNat p1.2.2) (⟨x3.mKind, x3.mA, w64 ((w64 (p1.2.1 + 1)) + 1), x3.mC, x3.mText, (⟨x3.mGrid.mRows, x3.mGrid.mCols, x3.mGrid.mCells⟩ : Gx.Grid), (⟨x3.mClue.mSense, x3.mClue.mPlay⟩ : Gx.Clue), (⟨x3.mListed.mWord, x3.mListed.mFrom, x3.mListed.mUntil, x3.mListed.mScore⟩ : Gx.Listed), (⟨x3.mMeaning.mWord, x3.mMeaning.mSense⟩ : Gx.Meaning)⟩ : Gx.Event)) by (exact eq_by)) h (fun x4 hx4 h => ?_)
   refine avb ?_
   refine ldp_raw (show _ = List.map Gx.Event.enc (List.set p1.1 (Int.toNat p1.2.2) (⟨x3.mKind, x3.mA, w64 ((w64 (p1.2.1 + 1)) + 1), x3.mC, x3.mText, (⟨x3.mGrid.mRows, x3.mGrid.mCols, x3.mGrid.mCells⟩ : Gx.Grid), (⟨x3.mClue.mSense, x3.mClue.mPlay⟩ : Gx.Clue), (⟨x3.mListed.mWord, x3.mListed.mFrom, x3.mListed.mUntil, x3.mListed.mScore⟩ : Gx.Listed), (⟨x3.mMeaning.mWord, x3.mMeaning.mSense⟩ : Gx.Meaning)⟩ : Gx.Event)) by (exact eq_by)) hx4 ?_
   refine avb ?_
   refine plb ?_;refine call_sel (E := fun (x : (List UInt8)) => DV.one (D.s x)) h (fun x5 h1 => (l_markText_ok N (w64 ((w64 ((w64 ((w64 (p1.2.1 + 1)) + 1)) + 1)) + 1)) h1)) (fun x5 hx5 h => ?_)
   refine avb ?_
   refine idxp_raw (show _ = List.map Gx.Event.enc (List.set p1.1 (Int.toNat p1.2.2) (⟨x4.mKind, x4.mA, x4.mB, w64 ((w64 ((w64 (p1.2.1 + 1)) + 1)) + 1), x4.mText, (⟨x4.mGrid.mRows, x4.mGrid.mCols, x4.mGrid.mCells⟩ : Gx.Grid), (⟨x4.mClue.mSense, x4.mClue.mPlay⟩ : Gx.Clue), (⟨x4.mListed.mWord, x4.mListed.mFrom, x4.mListed.mUntil, x4.mListed.mScore⟩ : Gx.Listed), (⟨x4.mMeaning.mWord, x4.mMeaning.mSense⟩ : Gx.Meaning)⟩ : Gx.Event)) by (exact eq_by)) h (fun x6 hx6 h => ?_)
   refine avb ?_
   refine ldp_raw (show _ = List.map Gx.Event.enc (List.set p1.1 (Int.toNat p1.2.2) (⟨x4.mKind, x4.mA, x4.mB, w64 ((w64 ((w64 (p1.2.1 + 1)) + 1)) + 1), x4.mText, (⟨x4.mGrid.mRows, x4.mGrid.mCols, x4.mGrid.mCells⟩ : Gx.Grid), (⟨x4.mClue.mSense, x4.mClue.mPlay⟩ : Gx.Clue), (⟨x4.mListed.mWord, x4.mListed.mFrom, x4.mListed.mUntil, x4.mListed.mScore⟩ : Gx.Listed), (⟨x4.mMeaning.mWord, x4.mMeaning.mSense⟩ : Gx.Meaning)⟩ : Gx.Event)) by (exact eq_by)) hx6 ?_
   refine avb ?_
   refine idxp_raw (show _ = List.map Gx.Event.enc (List.set p1.1 (Int.toNat p1.2.2) (⟨x6.mKind, x6.mA, x6.mB, x6.mC, x5, (⟨x6.mGrid.mRows, x6.mGrid.mCols, x6.mGrid.mCells⟩ : Gx.Grid), (⟨x6.mClue.mSense, x6.mClue.mPlay⟩ : Gx.Clue), (⟨x6.mListed.mWord, x6.mListed.mFrom, x6.mListed.mUntil, x6.mListed.mScore⟩ : Gx.Listed), (⟨x6.mMeaning.mWord, x6.mMeaning.mSense⟩ : Gx.Meaning)⟩ : Gx.Event)) by (exact eq_by)) h (fun x7 hx7 h => ?_)
   refine avb ?_
   refine ldp_raw (show _ = List.map Gx.Event.enc (List.set p1.1 (Int.toNat p1.2.2) (⟨x6.mKind, x6.mA, x6.mB, x6.mC, x5, (⟨x6.mGrid.mRows, x6.mGrid.mCols, x6.mGrid.mCells⟩ : Gx.Grid), (⟨x6.mClue.mSense, x6.mClue.mPlay⟩ : Gx.Clue), (⟨x6.mListed.mWord, x6.mListed.mFrom, x6.mListed.mUntil, x6.mListed.mScore⟩ : Gx.Listed), (⟨x6.mMeaning.mWord, x6.mMeaning.mSense⟩ : Gx.Meaning)⟩ : Gx.Event)) by (exact eq_by)) hx7 ?_
   refine avb ?_
   refine idxp_raw (show _ = List.map Gx.Event.enc (List.set p1.1 (Int.toNat p1.2.2) (⟨x7.mKind, x7.mA, x7.mB, x7.mC, x7.mText, (⟨w64 ((w64 ((w64 ((w64 ((w64 (p1.2.1 + 1)) + 1)) + 1)) + 1)) + 1), x7.mGrid.mCols, x7.mGrid.mCells⟩ : Gx.Grid), (⟨x7.mClue.mSense, x7.mClue.mPlay⟩ : Gx.Clue), (⟨x7.mListed.mWord, x7.mListed.mFrom, x7.mListed.mUntil, x7.mListed.mScore⟩ : Gx.Listed), (⟨x7.mMeaning.mWord, x7.mMeaning.mSense⟩ : Gx.Meaning)⟩ : Gx.Event)) by (exact eq_by)) h (fun x8 hx8 h => ?_)
   refine avb ?_
   refine ldp_raw (show _ = List.map Gx.Event.enc (List.set p1.1 (Int.toNat p1.2.2) (⟨x7.mKind, x7.mA, x7.mB, x7.mC, x7.mText, (⟨w64 ((w64 ((w64 ((w64 ((w64 (p1.2.1 + 1)) + 1)) + 1)) + 1)) + 1), x7.mGrid.mCols, x7.mGrid.mCells⟩ : Gx.Grid), (⟨x7.mClue.mSense, x7.mClue.mPlay⟩ : Gx.Clue), (⟨x7.mListed.mWord, x7.mListed.mFrom, x7.mListed.mUntil, x7.mListed.mScore⟩ : Gx.Listed), (⟨x7.mMeaning.mWord, x7.mMeaning.mSense⟩ : Gx.Meaning)⟩ : Gx.Event)) by (exact eq_by)) hx8 ?_
   refine avb ?_
   refine plb ?_;refine call_sel (E := fun (x : (List UInt8)) => DV.one (D.s x)) h (fun x9 h1 => (l_markText_ok N (w64 ((w64 ((w64 ((w64 ((w64 ((w64 ((w64 (p1.2.1 + 1)) + 1)) + 1)) + 1)) + 1)) + 1)) + 1)) h1)) (fun x9 hx9 h => ?_)
   refine avb ?_
   refine idxp_raw (show _ = List.map Gx.Event.enc (List.set p1.1 (Int.toNat p1.2.2) (⟨x8.mKind, x8.mA, x8.mB, x8.mC, x8.mText, (⟨x8.mGrid.mRows, w64 ((w64 ((w64 ((w64 ((w64 ((w64 (p1.2.1 + 1)) + 1)) + 1)) + 1)) + 1)) + 1), x8.mGrid.mCells⟩ : Gx.Grid), (⟨x8.mClue.mSense, x8.mClue.mPlay⟩ : Gx.Clue), (⟨x8.mListed.mWord, x8.mListed.mFrom, x8.mListed.mUntil, x8.mListed.mScore⟩ : Gx.Listed), (⟨x8.mMeaning.mWord, x8.mMeaning.mSense⟩ : Gx.Meaning)⟩ : Gx.Event)) by (exact eq_by)) h (fun x10 hx10 h => ?_)
   refine avb ?_
   refine ldp_raw (show _ = List.map Gx.Event.enc (List.set p1.1 (Int.toNat p1.2.2) (⟨x8.mKind, x8.mA, x8.mB, x8.mC, x8.mText, (⟨x8.mGrid.mRows, w64 ((w64 ((w64 ((w64 ((w64 ((w64 (p1.2.1 + 1)) + 1)) + 1)) + 1)) + 1)) + 1), x8.mGrid.mCells⟩ : Gx.Grid), (⟨x8.mClue.mSense, x8.mClue.mPlay⟩ : Gx.Clue), (⟨x8.mListed.mWord, x8.mListed.mFrom, x8.mListed.mUntil, x8.mListed.mScore⟩ : Gx.Listed), (⟨x8.mMeaning.mWord, x8.mMeaning.mSense⟩ : Gx.Meaning)⟩ : Gx.Event)) by (exact eq_by)) hx10 ?_
   refine avb ?_
   refine idxp_raw (show _ = List.map Gx.Event.enc (List.set p1.1 (Int.toNat p1.2.2) (⟨x10.mKind, x10.mA, x10.mB, x10.mC, x10.mText, (⟨x10.mGrid.mRows, x10.mGrid.mCols, x9⟩ : Gx.Grid), (⟨x10.mClue.mSense, x10.mClue.mPlay⟩ : Gx.Clue), (⟨x10.mListed.mWord, x10.mListed.mFrom, x10.mListed.mUntil, x10.mListed.mScore⟩ : Gx.Listed), (⟨x10.mMeaning.mWord, x10.mMeaning.mSense⟩ : Gx.Meaning)⟩ : Gx.Event)) by (exact eq_by)) h (fun x11 hx11 h => ?_)
   refine avb ?_
   refine ldp_raw (show _ = List.map Gx.Event.enc (List.set p1.1 (Int.toNat p1.2.2) (⟨x10.mKind, x10.mA, x10.mB, x10.mC, x10.mText, (⟨x10.mGrid.mRows, x10.mGrid.mCols, x9⟩ : Gx.Grid), (⟨x10.mClue.mSense, x10.mClue.mPlay⟩ : Gx.Clue), (⟨x10.mListed.mWord, x10.mListed.mFrom, x10.mListed.mUntil, x10.mListed.mScore⟩ : Gx.Listed), (⟨x10.mMeaning.mWord, x10.mMeaning.mSense⟩ : Gx.Meaning)⟩ : Gx.Event)) by (exact eq_by)) hx11 ?_
   refine avb ?_
   refine idxp_raw (show _ = List.map Gx.Event.enc (List.set p1.1 (Int.toNat p1.2.2) (⟨x11.mKind, x11.mA, x11.mB, x11.mC, x11.mText, (⟨x11.mGrid.mRows, x11.mGrid.mCols, x11.mGrid.mCells⟩ : Gx.Grid), (⟨w64 ((w64 ((w64 ((w64 ((w64 ((w64 ((w64 ((w64 (p1.2.1 + 1)) + 1)) + 1)) + 1)) + 1)) + 1)) + 1)) + 1), x11.mClue.mPlay⟩ : Gx.Clue), (⟨x11.mListed.mWord, x11.mListed.mFrom, x11.mListed.mUntil, x11.mListed.mScore⟩ : Gx.Listed), (⟨x11.mMeaning.mWord, x11.mMeaning.mSense⟩ : Gx.Meaning)⟩ : Gx.Event)) by (exact eq_by)) h (fun x12 hx12 h => ?_)
   refine avb ?_
   refine ldp_raw (show _ = List.map Gx.Event.enc (List.set p1.1 (Int.toNat p1.2.2) (⟨x11.mKind, x11.mA, x11.mB, x11.mC, x11.mText, (⟨x11.mGrid.mRows, x11.mGrid.mCols, x11.mGrid.mCells⟩ : Gx.Grid), (⟨w64 ((w64 ((w64 ((w64 ((w64 ((w64 ((w64 ((w64 (p1.2.1 + 1)) + 1)) + 1)) + 1)) + 1)) + 1)) + 1)) + 1), x11.mClue.mPlay⟩ : Gx.Clue), (⟨x11.mListed.mWord, x11.mListed.mFrom, x11.mListed.mUntil, x11.mListed.mScore⟩ : Gx.Listed), (⟨x11.mMeaning.mWord, x11.mMeaning.mSense⟩ : Gx.Meaning)⟩ : Gx.Event)) by (exact eq_by)) hx12 ?_
   refine avb ?_
   refine clb ?_;refine ldp_raw (show _ = List.map Gx.Event.enc (List.set p1.1 (Int.toNat p1.2.2) (⟨x11.mKind, x11.mA, x11.mB, x11.mC, x11.mText, (⟨x11.mGrid.mRows, x11.mGrid.mCols, x11.mGrid.mCells⟩ : Gx.Grid), (⟨w64 ((w64 ((w64 ((w64 ((w64 ((w64 ((w64 ((w64 (p1.2.1 + 1)) + 1)) + 1)) + 1)) + 1)) + 1)) + 1)) + 1), x11.mClue.mPlay⟩ : Gx.Clue), (⟨x11.mListed.mWord, x11.mListed.mFrom, x11.mListed.mUntil, x11.mListed.mScore⟩ : Gx.Listed), (⟨x11.mMeaning.mWord, x11.mMeaning.mSense⟩ : Gx.Meaning)⟩ : Gx.Event)) by (exact eq_by)) hx12 ?_;refine whb ?_;refine cturn_sel (R := fun (x13 : (List (Gx.Step)) × Int) => List.map Gx.Step.enc x13.1) (X := fun (x13 : (List (Gx.Step)) × Int) => Value.int .i64 x13.2) h (fun x13 h1 => (l_markStepS_ok N x12.mClue.mPlay (w64 ((w64 ((w64 ((w64 ((w64 ((w64 ((w64 ((w64 ((w64 (p1.2.1 + 1)) + 1)) + 1)) + 1)) + 1)) + 1)) + 1)) + 1)) + 1)) h1)) (fun x13 hx13 h => ?_)
   refine avb ?_
   refine plb ?_;refine call_sel (E := fun (x : (List UInt8)) => DV.one (D.s x)) h (fun x14 h1 => (l_markText_ok N x13.2 h1)) (fun x14 hx14 h => ?_)
   refine avb ?_
   refine idxp_raw (show _ = List.map Gx.Event.enc (List.set p1.1 (Int.toNat p1.2.2) (⟨x12.mKind, x12.mA, x12.mB, x12.mC, x12.mText, (⟨x12.mGrid.mRows, x12.mGrid.mCols, x12.mGrid.mCells⟩ : Gx.Grid), (⟨x12.mClue.mSense, x13.1⟩ : Gx.Clue), (⟨x12.mListed.mWord, x12.mListed.mFrom, x12.mListed.mUntil, x12.mListed.mScore⟩ : Gx.Listed), (⟨x12.mMeaning.mWord, x12.mMeaning.mSense⟩ : Gx.Meaning)⟩ : Gx.Event)) by (exact eq_by)) h (fun x15 hx15 h => ?_)
   refine avb ?_
   refine ldp_raw (show _ = List.map Gx.Event.enc (List.set p1.1 (Int.toNat p1.2.2) (⟨x12.mKind, x12.mA, x12.mB, x12.mC, x12.mText, (⟨x12.mGrid.mRows, x12.mGrid.mCols, x12.mGrid.mCells⟩ : Gx.Grid), (⟨x12.mClue.mSense, x13.1⟩ : Gx.Clue), (⟨x12.mListed.mWord, x12.mListed.mFrom, x12.mListed.mUntil, x12.mListed.mScore⟩ : Gx.Listed), (⟨x12.mMeaning.mWord, x12.mMeaning.mSense⟩ : Gx.Meaning)⟩ : Gx.Event)) by (exact eq_by)) hx15 ?_
   refine avb ?_
   refine idxp_raw (show _ = List.map Gx.Event.enc (List.set p1.1 (Int.toNat p1.2.2) (⟨x15.mKind, x15.mA, x15.mB, x15.mC, x15.mText, (⟨x15.mGrid.mRows, x15.mGrid.mCols, x15.mGrid.mCells⟩ : Gx.Grid), (⟨x15.mClue.mSense, x15.mClue.mPlay⟩ : Gx.Clue), (⟨x14, x15.mListed.mFrom, x15.mListed.mUntil, x15.mListed.mScore⟩ : Gx.Listed), (⟨x15.mMeaning.mWord, x15.mMeaning.mSense⟩ : Gx.Meaning)⟩ : Gx.Event)) by (exact eq_by)) h (fun x16 hx16 h => ?_)
   refine avb ?_
   refine ldp_raw (show _ = List.map Gx.Event.enc (List.set p1.1 (Int.toNat p1.2.2) (⟨x15.mKind, x15.mA, x15.mB, x15.mC, x15.mText, (⟨x15.mGrid.mRows, x15.mGrid.mCols, x15.mGrid.mCells⟩ : Gx.Grid), (⟨x15.mClue.mSense, x15.mClue.mPlay⟩ : Gx.Clue), (⟨x14, x15.mListed.mFrom, x15.mListed.mUntil, x15.mListed.mScore⟩ : Gx.Listed), (⟨x15.mMeaning.mWord, x15.mMeaning.mSense⟩ : Gx.Meaning)⟩ : Gx.Event)) by (exact eq_by)) hx16 ?_
   refine avb ?_
   refine idxp_raw (show _ = List.map Gx.Event.enc (List.set p1.1 (Int.toNat p1.2.2) (⟨x16.mKind, x16.mA, x16.mB, x16.mC, x16.mText, (⟨x16.mGrid.mRows, x16.mGrid.mCols, x16.mGrid.mCells⟩ : Gx.Grid), (⟨x16.mClue.mSense, x16.mClue.mPlay⟩ : Gx.Clue), (⟨x16.mListed.mWord, w64 (x13.2 + 1), x16.mListed.mUntil, x16.mListed.mScore⟩ : Gx.Listed), (⟨x16.mMeaning.mWord, x16.mMeaning.mSense⟩ : Gx.Meaning)⟩ : Gx.Event)) by (exact eq_by)) h (fun x17 hx17 h => ?_)
   refine avb ?_
   refine ldp_raw (show _ = List.map Gx.Event.enc (List.set p1.1 (Int.toNat p1.2.2) (⟨x16.mKind, x16.mA, x16.mB, x16.mC, x16.mText, (⟨x16.mGrid.mRows, x16.mGrid.mCols, x16.mGrid.mCells⟩ : Gx.Grid), (⟨x16.mClue.mSense, x16.mClue.mPlay⟩ : Gx.Clue), (⟨x16.mListed.mWord, w64 (x13.2 + 1), x16.mListed.mUntil, x16.mListed.mScore⟩ : Gx.Listed), (⟨x16.mMeaning.mWord, x16.mMeaning.mSense⟩ : Gx.Meaning)⟩ : Gx.Event)) by (exact eq_by)) hx17 ?_
   refine avb ?_
   refine idxp_raw (show _ = List.map Gx.Event.enc (List.set p1.1 (Int.toNat p1.2.2) (⟨x17.mKind, x17.mA, x17.mB, x17.mC, x17.mText, (⟨x17.mGrid.mRows, x17.mGrid.mCols, x17.mGrid.mCells⟩ : Gx.Grid), (⟨x17.mClue.mSense, x17.mClue.mPlay⟩ : Gx.Clue), (⟨x17.mListed.mWord, x17.mListed.mFrom, w64 ((w64 (x13.2 + 1)) + 1), x17.mListed.mScore⟩ : Gx.Listed), (⟨x17.mMeaning.mWord, x17.mMeaning.mSense⟩ : Gx.Meaning)⟩ : Gx.Event)) by (exact eq_by)) h (fun x18 hx18 h => ?_)
   refine avb ?_
   refine ldp_raw (show _ = List.map Gx.Event.enc (List.set p1.1 (Int.toNat p1.2.2) (⟨x17.mKind, x17.mA, x17.mB, x17.mC, x17.mText, (⟨x17.mGrid.mRows, x17.mGrid.mCols, x17.mGrid.mCells⟩ : Gx.Grid), (⟨x17.mClue.mSense, x17.mClue.mPlay⟩ : Gx.Clue), (⟨x17.mListed.mWord, x17.mListed.mFrom, w64 ((w64 (x13.2 + 1)) + 1), x17.mListed.mScore⟩ : Gx.Listed), (⟨x17.mMeaning.mWord, x17.mMeaning.mSense⟩ : Gx.Meaning)⟩ : Gx.Event)) by (exact eq_by)) hx18 ?_
   refine avb ?_
   refine plb ?_;refine call_sel (E := fun (x : (List UInt8)) => DV.one (D.s x)) h (fun x19 h1 => (l_markText_ok N (w64 ((w64 ((w64 ((w64 (x13.2 + 1)) + 1)) + 1)) + 1)) h1)) (fun x19 hx19 h => ?_)
   refine avb ?_
   refine idxp_raw (show _ = List.map Gx.Event.enc (List.set p1.1 (Int.toNat p1.2.2) (⟨x18.mKind, x18.mA, x18.mB, x18.mC, x18.mText, (⟨x18.mGrid.mRows, x18.mGrid.mCols, x18.mGrid.mCells⟩ : Gx.Grid), (⟨x18.mClue.mSense, x18.mClue.mPlay⟩ : Gx.Clue), (⟨x18.mListed.mWord, x18.mListed.mFrom, x18.mListed.mUntil, w64 ((w64 ((w64 (x13.2 + 1)) + 1)) + 1)⟩ : Gx.Listed), (⟨x18.mMeaning.mWord, x18.mMeaning.mSense⟩ : Gx.Meaning)⟩ : Gx.Event)) by (exact eq_by)) h (fun x20 hx20 h => ?_)
   refine avb ?_
   refine ldp_raw (show _ = List.map Gx.Event.enc (List.set p1.1 (Int.toNat p1.2.2) (⟨x18.mKind, x18.mA, x18.mB, x18.mC, x18.mText, (⟨x18.mGrid.mRows, x18.mGrid.mCols, x18.mGrid.mCells⟩ : Gx.Grid), (⟨x18.mClue.mSense, x18.mClue.mPlay⟩ : Gx.Clue), (⟨x18.mListed.mWord, x18.mListed.mFrom, x18.mListed.mUntil, w64 ((w64 ((w64 (x13.2 + 1)) + 1)) + 1)⟩ : Gx.Listed), (⟨x18.mMeaning.mWord, x18.mMeaning.mSense⟩ : Gx.Meaning)⟩ : Gx.Event)) by (exact eq_by)) hx20 ?_
   refine avb ?_
   refine idxp_raw (show _ = List.map Gx.Event.enc (List.set p1.1 (Int.toNat p1.2.2) (⟨x20.mKind, x20.mA, x20.mB, x20.mC, x20.mText, (⟨x20.mGrid.mRows, x20.mGrid.mCols, x20.mGrid.mCells⟩ : Gx.Grid), (⟨x20.mClue.mSense, x20.mClue.mPlay⟩ : Gx.Clue), (⟨x20.mListed.mWord, x20.mListed.mFrom, x20.mListed.mUntil, x20.mListed.mScore⟩ : Gx.Listed), (⟨x19, x20.mMeaning.mSense⟩ : Gx.Meaning)⟩ : Gx.Event)) by (exact eq_by)) h (fun x21 hx21 h => ?_)
   refine avb ?_
   refine ldp_raw (show _ = List.map Gx.Event.enc (List.set p1.1 (Int.toNat p1.2.2) (⟨x20.mKind, x20.mA, x20.mB, x20.mC, x20.mText, (⟨x20.mGrid.mRows, x20.mGrid.mCols, x20.mGrid.mCells⟩ : Gx.Grid), (⟨x20.mClue.mSense, x20.mClue.mPlay⟩ : Gx.Clue), (⟨x20.mListed.mWord, x20.mListed.mFrom, x20.mListed.mUntil, x20.mListed.mScore⟩ : Gx.Listed), (⟨x19, x20.mMeaning.mSense⟩ : Gx.Meaning)⟩ : Gx.Event)) by (exact eq_by)) hx21 ?_
   refine avb ?_
   exact lbk hfp1 h
  ·have h := finr hfp1 h
   refine cut_at ((p1.1, p1.2.1)) (some_in h) ?_
   exact weak_by
 rintro t22 rfl
 have h : _ = some _ := gt22
 refine avb ?_
 obtain rfl := some_in h
 exact ⟨cons_eq (some_deep (by (exact eq_by))) (rfl), by (exact eq_by)⟩

theorem l_heldStepS_ok (N : Nat) (v0 : List (Gx.Step)) (v1 : Int) {r : Int} (h : l_heldStepS N v0 v1 = some r) : Pure Try.prog 30 [DV.one (D.sl 4 (List.map Gx.Step.enc v0)), DV.one (D.i v1)] (DV.one (D.i r)) := by
 refine pure_of_walk Try.tok Try.mixed Try.func30 (by kernel_rfl) fun W => ?_
 unfold l_heldStepS at h
 refine ab0 ?_
 refine W.r_seq ?_
 refine ab0 ?_
 obtain ⟨zt6, h, gt6⟩ := cutb_some h
 refine W.r_cut (fun (t6 : Int) => ⟨[(1, .d (D.i t6))], [], 1000⟩) (fun t => .nx t = zt6) ?_ ?_
 ·refine avb ?_
  refine loop_lp (fun (p1 : Int × Int) => ⟨[(0, .d (D.sl 4 (List.map Gx.Step.enc v0))), (1, .d (D.i p1.1)), (5, .d (D.i p1.2))], [], 1000⟩) h ?_ ?_
  ·exact weak_by
  intro np1 p1 yp1 h hfp1
  unfold l_heldStepS_L1 at h
  refine avb ?_
  refine lns (v0.length : Int) ?_
  refine avb ?_
  refine brb h ?_ ?_<;>intro _ h
  ·refine idx_sel h (fun x1 hx1 h => ?_)
   refine avb ?_
   refine brb h ?_ ?_<;>intro _ h
   ·have h := finr hfp1 h
    have h := cutr gt6 h
    cases h;exact eq_by
   ·refine idx_sel h (fun x2 hx2 h => ?_)
    refine avb ?_
    refine plb ?_;refine call_sel (E := fun (x : (List UInt8)) => DV.one (D.s x)) h (fun x3 h1 => (l_markText_ok N (w64 (p1.1 + 1)) h1)) (fun x3 hx3 h => ?_)
    refine avb ?_
    refine brb h ?_ ?_<;>intro _ h
    ·have h := finr hfp1 h
     have h := cutr gt6 h
     cases h;exact eq_by
    ·refine idx_sel h (fun x4 hx4 h => ?_)
     refine avb ?_
     refine brb h ?_ ?_<;>intro _ h
     ·have h := finr hfp1 h
      have h := cutr gt6 h
      cases h;exact eq_by
     ·refine idx_sel h (fun x5 hx5 h => ?_)
      refine avb ?_
      refine brb h ?_ ?_<;>intro _ h
      ·have h := finr hfp1 h
       have h := cutr gt6 h
       cases h;exact eq_by
      ·exact lbk hfp1 h
  ·have h := finr hfp1 h
   refine cut_at (p1.1) (some_in h) ?_
   exact weak_by
 rintro t6 rfl
 have h : _ = some _ := gt6
 refine avb ?_
 cases h;exact eq_by

end Lw
end Go.Proofs
