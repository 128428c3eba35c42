/- PRINTED BY gen.py (mine): their contracts. -/
import Derived.Test.YtniibgdokfnomaaGreatDoorAvPfStepDesk2
namespace Go.Proofs
open Go Go.Av
set_option maxRecDepth 100000
set_option maxHeartbeats 40000000
set_option linter.unusedVariables false
set_option linter.unusedSimpArgs false
namespace Lw
theorem i_UncheckedIn_ok (N : Nat) (v0 : Gx.Grid) (v1 : Int) {r : Int} (h : i_UncheckedIn N v0 v1 = some r) : Pure Tryz.prog 141 [DV.agg (Gx.Grid.enc v0), DV.one (D.i v1)] (DV.one (D.i r)) := by
 refine pure_of_walk Tryz.tok Tryz.mixed Tryz.func141 (by kernel_rfl) fun W => ?_
 unfold i_UncheckedIn at h
 refine avb ?_
 refine plb ?_;refine call_sel (E := fun (x : (List (List (Int)))) => DV.one (D.sl 1 (List.map (Gx.encL 1 Gx.encI) x))) h (fun x1 h1 => (i_layout_ok N v0 h1)) (fun x1 hx1 h => ?_)
 refine avb ?_
 refine lns (x1.length : Int) ?_
 refine avb ?_
 refine plb ?_;refine call_sel (E := fun (x : Bool) => DV.one (D.b x)) h (fun x2 h1 => (i_at_ok N v1 (x1.length : Int) h1)) (fun x2 hx2 h => ?_)
 refine avb ?_
 refine br_sel h (fun _ h => ?_) (fun _ h => ?_)
 ·refine avb ?_
  cases h;exact eq_by
 ·refine ab0 ?_
  refine W.r_seq ?_
  refine ab0 ?_
  obtain ⟨zt6, h, gt6⟩ := bnd_some h
  refine W.r_cut (fun (t6 : Int) => ⟨[(6, .d (D.i t6))], [], 1000⟩) (fun t => t = zt6) ?_ ?_
  ·refine avb ?_
   refine idxp_sel h (fun x3 hx3 h => ?_)
   refine avb ?_
   refine ldp_sel hx3 ?_
   refine avb ?_
   refine lns (x3.length : Int) ?_
   refine avb ?_
   refine loop_lp (fun (p1 : Int × Int) => ⟨[(2, .ptr 1 0 0), (6, .d (D.i p1.1)), (19, .d (D.sl 1 (List.map Gx.encI x3))), (20, .d (D.i (x3.length : Int))), (21, .d (D.i p1.2))], [(1, some (.box [.d (D.i v0.mRows), .d (D.i v0.mCols), .d (D.s v0.mCells)]))], 1000⟩) h ?_ ?_
   ·exact weak_by
   intro np1 p1 yp1 h hfp1
   unfold i_UncheckedIn_L1 at h
   refine avb ?_
   refine brb h ?_ ?_<;>intro _ h
   ·refine idx_sel h (fun x4 hx4 h => ?_)
    refine avb ?_
    refine plb ?_;refine call_sel (E := fun (x : Bool) => DV.one (D.b x)) h (fun x5 h1 => (i_IsChecked_ok N v0 x4 h1)) (fun x5 hx5 h => ?_)
    refine avb ?_
    refine brb h ?_ ?_<;>intro _ h
    ·exact lbk hfp1 h
    ·exact lbk hfp1 h
   ·have h := finr hfp1 h
    refine cut_at (p1.1) (some_in h) ?_
    exact weak_by
  rintro t6 rfl
  have h : _ = some _ := gt6
  refine avb ?_
  cases h;exact eq_by

theorem i_isLetter_ok (N : Nat) (v0 : Int) {r : Bool} (h : i_isLetter N v0 = some r) : Pure Tryz.prog 180 [DV.one (D.u8 v0)] (DV.one (D.b r)) := by
 refine pure_of_walk Tryz.tok Tryz.mixed Tryz.func180 (by kernel_rfl) fun W => ?_
 unfold i_isLetter at h
 refine avb ?_
 refine brb h ?_ ?_<;>intro _ h
 ·cases h;exact eq_by
 ·cases h;exact eq_by

theorem i_alone_ok (N : Nat) (v0 : Gx.Grid) (v1 : List UInt8) {r : Bool} (h : i_alone N v0 v1 = some r) : Pure Tryz.prog 142 [DV.agg (Gx.Grid.enc v0), DV.one (D.s v1)] (DV.one (D.b r)) := by
 refine pure_of_walk Tryz.tok Tryz.mixed Tryz.func142 (by kernel_rfl) fun W => ?_
 unfold i_alone at h
 refine ab0 ?_
 refine W.r_seq ?_
 refine ab0 ?_
 refine W.r_seq ?_
 refine ab0 ?_
 obtain ⟨zt5, h, gt5⟩ := bnd_some h
 refine W.r_cut (fun (t5 : (List (Int × Int))) => ⟨[(1, .d (D.s v1)), (2, .ptr 1 0 0), (5, .sl 2)], [(1, some (.box [.d (D.i v0.mRows), .d (D.i v0.mCols), .d (D.s v0.mCells)])), (2, some (.mp t5))], 1000⟩) (fun t => t = zt5) ?_ ?_
 ·refine avb ?_
  refine plb ?_;refine call_sel (E := fun (x : (List (List (Int)))) => DV.one (D.sl 1 (List.map (Gx.encL 1 Gx.encI) x))) h (fun x1 h1 => (i_layout_ok N v0 h1)) (fun x1 hx1 h => ?_)
  refine avb ?_
  refine lns (x1.length : Int) ?_
  refine avb ?_
  refine loop_lp (fun (p1 : (List (Int × Int)) × Int) => ⟨[(1, .d (D.s v1)), (2, .ptr 1 0 0), (5, .sl 2), (13, .sl 3), (14, .d (D.i (x1.length : Int))), (15, .d (D.i p1.2))], [(1, some (.box [.d (D.i v0.mRows), .d (D.i v0.mCols), .d (D.s v0.mCells)])), (2, some (.mp p1.1)), (3, some (.arr 1 (List.map (Gx.encL 1 Gx.encI) x1) true))], 1000⟩) h ?_ ?_
  ·exact weak_by
  intro np1 p1 yp1 h hfp1
  unfold i_alone_L1 at h
  refine avb ?_
  refine br_sel h (fun _ h => ?_) (fun _ h => ?_)
  ·refine ab0 ?_
   obtain ⟨zt4, h, gt4⟩ := bnd_some h
   refine W.r_cut (fun (t4 : (List (Int × Int))) => ⟨[(1, .d (D.s v1)), (2, .ptr 1 0 0), (5, .sl 2), (13, .sl 3), (14, .d (D.i (x1.length : Int))), (15, .d (D.i p1.2))], [(1, some (.box [.d (D.i v0.mRows), .d (D.i v0.mCols), .d (D.s v0.mCells)])), (2, some (.mp t4)), (3, some (.arr 1 (List.map (Gx.encL 1 Gx.encI) x1) true))], 1000⟩) (fun t => t = zt4) ?_ ?_
   ·refine avb ?_
    refine idxp_sel h (fun x2 hx2 h => ?_)
    refine avb ?_
    refine ldp_sel hx2 ?_
    refine avb ?_
    refine lns (x2.length : Int) ?_
    refine avb ?_
    refine loop_lp (fun (p2 : (List (Int × Int)) × Int) => ⟨[(1, .d (D.s v1)), (2, .ptr 1 0 0), (5, .sl 2), (13, .sl 3), (14, .d (D.i (x1.length : Int))), (15, .d (D.i p1.2)), (19, .d (D.sl 1 (List.map Gx.encI x2))), (20, .d (D.i (x2.length : Int))), (21, .d (D.i p2.2))], [(1, some (.box [.d (D.i v0.mRows), .d (D.i v0.mCols), .d (D.s v0.mCells)])), (2, some (.mp p2.1)), (3, some (.arr 1 (List.map (Gx.encL 1 Gx.encI) x1) true))], 1000⟩) h ?_ ?_
    ·exact weak_by
    intro np2 p2 yp2 h hfp2
    unfold i_alone_L2 at h
    refine avb ?_
    refine brb h ?_ ?_<;>intro _ h
    ·refine idx_sel h (fun x3 hx3 h => ?_)
     refine avb ?_
     exact lbk hfp2 h
    ·have h := finr hfp2 h
     refine cut_at (p2.1) (some_in h) ?_
     exact weak_by
   rintro t4 rfl
   have h : _ = some _ := gt4
   refine avb ?_
   exact lbk hfp1 h
  ·refine avb ?_
   have h := finr hfp1 h
   refine cut_at (p1.1) (some_in h) ?_
   exact weak_by
 rintro t5 rfl
 have h : _ = some _ := gt5
 refine ab0 ?_
 obtain ⟨zt7, h, gt7⟩ := cutb_some h
 refine W.r_cut (fun (t7 : Unit) => ⟨[], [], 1000⟩) (fun t => .nx t = zt7) ?_ ?_
 ·refine avb ?_
  refine lns (v0.mCells.length : Int) ?_
  refine avb ?_
  refine loop_lp (fun (p3 : Int) => ⟨[(1, .d (D.s v1)), (2, .ptr 1 0 0), (5, .sl 2), (31, .d (D.i (v0.mCells.length : Int))), (32, .d (D.i p3))], [(1, some (.box [.d (D.i v0.mRows), .d (D.i v0.mCols), .d (D.s v0.mCells)])), (2, some (.mp t5))], 1000⟩) h ?_ ?_
  ·exact weak_by
  intro np3 p3 yp3 h hfp3
  unfold i_alone_L3 at h
  refine avb ?_
  refine brb h ?_ ?_<;>intro _ h
  ·refine chk_sel h (fun q => q) (fun h => ?_)
   refine avb ?_
   refine brb h ?_ ?_<;>intro _ h
   ·refine brb h ?_ ?_<;>intro _ h
    ·refine chk_sel h (fun q => q) (fun h => ?_)
     refine avb ?_
     refine plb ?_;refine call_sel (E := fun (x : Bool) => DV.one (D.b x)) h (fun x6 h1 => (i_isLetter_ok N (byteI v1 p3) h1)) (fun x6 hx6 h => ?_)
     refine avb ?_
     refine brb h ?_ ?_<;>intro _ h
     ·have h := finr hfp3 h
      have h := cutr gt7 h
      cases h;exact eq_by
     ·exact lbk hfp3 h
    ·exact lbk hfp3 h
   ·exact lbk hfp3 h
  ·have h := finr hfp3 h
   refine cut_at (()) (some_in h) ?_
   exact weak_by
 rintro t7 rfl
 have h : _ = some _ := gt7
 refine avb ?_
 cases h;exact eq_by

theorem i_FormOf_ok (N : Nat) (v0 : Gx.Grid) {r : Int} (h : i_FormOf N v0 = some r) : Pure Tryz.prog 102 [DV.agg (Gx.Grid.enc v0)] (DV.one (D.i r)) := by
 refine pure_of_walk Tryz.tok Tryz.mixed Tryz.func102 (by kernel_rfl) fun W => ?_
 unfold i_FormOf at h
 refine avb ?_
 refine plb ?_;refine call_sel (E := fun (x : Bool) => DV.one (D.b x)) h (fun x1 h1 => (i_IsGrid_ok N v0 h1)) (fun x1 hx1 h => ?_)
 refine avb ?_
 refine brb h ?_ ?_<;>intro _ h
 ·cases h;exact eq_by
 ·refine plb ?_;refine call_sel (E := fun (x : Bool) => DV.one (D.b x)) h (fun x2 h1 => (i_IsSymmetric_ok N v0 h1)) (fun x2 hx2 h => ?_)
  refine avb ?_
  refine brb h ?_ ?_<;>intro _ h
  ·cases h;exact eq_by
  ·refine plb ?_;refine call_sel (E := fun (x : Bool) => DV.one (D.b x)) h (fun x3 h1 => (i_IsConnected_ok N v0 h1)) (fun x3 hx3 h => ?_)
   refine avb ?_
   refine brb h ?_ ?_<;>intro _ h
   ·cases h;exact eq_by
   ·refine plb ?_;refine call_sel (E := fun (x : (List (Gx.Slot))) => DV.one (D.sl 4 (List.map Gx.Slot.enc x))) h (fun x4 h1 => (i_SlotsOf_ok N v0 h1)) (fun x4 hx4 h => ?_)
    refine ab0 ?_
    obtain ⟨zt6, h, gt6⟩ := cutb_some h
    refine W.r_cut (fun (t6 : Unit) => ⟨[(1, .ptr 1 0 0), (3, .sl 2)], [(1, some (.box [.d (D.i v0.mRows), .d (D.i v0.mCols), .d (D.s v0.mCells)])), (2, some (.arr 4 (List.map Gx.Slot.enc x4) true))], 1000⟩) (fun t => .nx t = zt6) ?_ ?_
    ·refine avb ?_
     refine lns (x4.length : Int) ?_
     refine avb ?_
     refine loop_lp (fun (p1 : Int) => ⟨[(1, .ptr 1 0 0), (3, .sl 2), (22, .sl 2), (23, .d (D.i (x4.length : Int))), (24, .d (D.i p1))], [(1, some (.box [.d (D.i v0.mRows), .d (D.i v0.mCols), .d (D.s v0.mCells)])), (2, some (.arr 4 (List.map Gx.Slot.enc x4) true))], 1000⟩) h ?_ ?_
     ·exact weak_by
     intro np1 p1 yp1 h hfp1
     unfold i_FormOf_L1 at h
     refine avb ?_
     refine brb h ?_ ?_<;>intro _ h
     ·refine idxp_sel h (fun x5 hx5 h => ?_)
      refine avb ?_
      refine ldp_sel hx5 ?_
      refine avb ?_
      refine brb h ?_ ?_<;>intro _ h
      ·have h := finr hfp1 h
       have h := cutr gt6 h
       cases h;exact eq_by
      ·exact lbk hfp1 h
     ·have h := finr hfp1 h
      refine cut_at (()) (some_in h) ?_
      exact weak_by
    rintro t6 rfl
    have h : _ = some _ := gt6
    refine ab0 ?_
    obtain ⟨zt9, h, gt9⟩ := cutb_some h
    refine W.r_cut (fun (t9 : Unit) => ⟨[(1, .ptr 1 0 0)], [(1, some (.box [.d (D.i v0.mRows), .d (D.i v0.mCols), .d (D.s v0.mCells)]))], 1000⟩) (fun t => .nx t = zt9) ?_ ?_
    ·refine avb ?_
     refine lns (x4.length : Int) ?_
     refine avb ?_
     refine loop_lp (fun (p2 : Int) => ⟨[(1, .ptr 1 0 0), (32, .sl 2), (33, .d (D.i (x4.length : Int))), (34, .d (D.i p2))], [(1, some (.box [.d (D.i v0.mRows), .d (D.i v0.mCols), .d (D.s v0.mCells)])), (2, some (.arr 4 (List.map Gx.Slot.enc x4) true))], 1000⟩) h ?_ ?_
     ·exact weak_by
     intro np2 p2 yp2 h hfp2
     unfold i_FormOf_L2 at h
     refine avb ?_
     refine brb h ?_ ?_<;>intro _ h
     ·refine idxp_sel h (fun x7 hx7 h => ?_)
      refine avb ?_
      refine ldp_sel hx7 ?_
      refine avb ?_
      refine plb ?_;refine call_sel (E := fun (x : Int) => DV.one (D.i x)) h (fun x8 h1 => (i_UncheckedIn_ok N v0 p2 h1)) (fun x8 hx8 h => ?_)
      refine avb ?_
      refine brb h ?_ ?_<;>intro _ h
      ·have h := finr hfp2 h
       have h := cutr gt9 h
       cases h;exact eq_by
      ·exact lbk hfp2 h
     ·have h := finr hfp2 h
      refine cut_at (()) (some_in h) ?_
      exact weak_by
    rintro t9 rfl
    have h : _ = some _ := gt9
    refine avb ?_
    refine plb ?_;refine call_sel (E := fun (x : Bool) => DV.one (D.b x)) h (fun x10 h1 => (i_alone_ok N v0 v0.mCells h1)) (fun x10 hx10 h => ?_)
    refine avb ?_
    refine brb h ?_ ?_<;>intro _ h
    ·cases h;exact eq_by
    ·cases h;exact eq_by

theorem i_EmptyFill_ok (N : Nat) (v0 : Gx.Grid) {r : (List UInt8)} (h : i_EmptyFill N v0 = some r) : Pure Tryz.prog 34 [DV.agg (Gx.Grid.enc v0)] (DV.one (D.s r)) := by
 refine pure_of_walk Tryz.tok Tryz.mixed Tryz.func34 (by kernel_rfl) fun W => ?_
 unfold i_EmptyFill at h
 refine avb ?_
 refine plb ?_;refine call_sel (E := fun (x : Bool) => DV.one (D.b x)) h (fun x1 h1 => (i_IsGrid_ok N v0 h1)) (fun x1 hx1 h => ?_)
 refine avb ?_
 refine brb h ?_ ?_<;>intro _ h
 ·cases h;exact eq_by
 ·refine plb ?_;refine call_sel (E := fun (x : (List UInt8)) => DV.one (D.s x)) h (fun x2 h1 => (g_strings_ReplaceAll_ok N v0.mCells ([46] : List UInt8) ([63] : List UInt8) h1)) (fun x2 hx2 h => ?_)
  refine avb ?_
  cases h;exact eq_by

theorem i_NewDraft_ok (N : Nat) (v0 : Gx.Grid) {r : Gx.Draft × Bool} (h : i_NewDraft N v0 = some r) : Pure Tryz.prog 46 [DV.agg (Gx.Grid.enc v0)] (DV.tup [DV.agg (Gx.Draft.enc r.1), DV.one (D.b r.2)]) := by
 refine pure_of_walk Tryz.tok Tryz.mixed Tryz.func46 (by kernel_rfl) fun W => ?_
 unfold i_NewDraft at h
 refine avb ?_
 refine plb ?_;refine call_sel (E := fun (x : Int) => DV.one (D.i x)) h (fun x1 h1 => (i_FormOf_ok N v0 h1)) (fun x1 hx1 h => ?_)
 refine avb ?_
 refine brb h ?_ ?_<;>intro _ h
 ·cases h;exact eq_by
 ·refine plb ?_;refine call_sel (E := fun (x : (List UInt8)) => DV.one (D.s x)) h (fun x2 h1 => (i_EmptyFill_ok N v0 h1)) (fun x2 hx2 h => ?_)
  refine avb ?_
  refine plb ?_;refine call_sel (E := fun (x : (List (Gx.Slot))) => DV.one (D.sl 4 (List.map Gx.Slot.enc x))) h (fun x3 h1 => (i_SlotsOf_ok N v0 h1)) (fun x3 hx3 h => ?_)
  refine avb ?_
  refine lns (x3.length : Int) ?_
  refine avb ?_
  refine chk_sel h (fun q => mks_ok q (by decide)) (fun h => ?_)
  refine avb ?_
  cases h;exact eq_by

theorem i_StepDesk_ok (N : Nat) (v0 : Gx.House) (v1 : Gx.Grid) {r : Gx.House × Bool} (h : i_StepDesk N v0 v1 = some r) : Pure Tryz.prog 13 [DV.agg (Gx.House.enc v0), DV.agg (Gx.Grid.enc v1)] (DV.tup [DV.agg (Gx.House.enc r.1), DV.one (D.b r.2)]) := by
 refine pure_of_walk Tryz.tok Tryz.mixed Tryz.func13 (by kernel_rfl) fun W => ?_
 unfold i_StepDesk at h
 refine avb ?_
 refine plb ?_;refine call_sel (E := fun (x : Gx.House) => DV.agg (Gx.House.enc x)) h (fun x1 h1 => (i_copyHouse_ok N v0 h1)) (fun x1 hx1 h => ?_)
 refine avb ?_
 refine plb ?_;refine call_sel (E := fun (x : Gx.Draft × Bool) => DV.tup [DV.agg (Gx.Draft.enc x.1), DV.one (D.b x.2)]) h (fun x2 h1 => (i_NewDraft_ok N v1 h1)) (fun x2 hx2 h => ?_)
 refine ab0 ?_
 obtain ⟨zt3, h, gt3⟩ := bnd_some h
 refine W.r_cut (fun (t3 : Int × Int × (List UInt8) × (List UInt8) × (List (Gx.Clue)) × Int) => ⟨[(4, .ptr 1 0 0), (6, .ptr 2 0 0), (8, .d (D.b x2.2))], [(1, some (.box [.d (D.sl 4 (List.map Gx.Listed.enc ([]))), .d (D.sl 2 (List.map Gx.Meaning.enc ([]))), .d (D.i 0), .d (D.i 0), .d (D.s ([] : List UInt8)), .d (D.s ([] : List UInt8)), .d (D.sl 2 (List.map Gx.Clue.enc ([]))), .d (D.i 0), .d (D.sl 10 (List.map Gx.Issue.enc ([]))), .d (D.sl 2 (List.map Gx.Used.enc ([]))), .d (D.sl 5 (List.map Gx.Correction.enc ([]))), .d (D.sl 4 (List.map Gx.Entry.enc ([]))), .d (D.i 0)])), (2, some (.box [.sl 3, .sl 4, .d (D.i t3.1), .d (D.i t3.2.1), .d (D.s t3.2.2.1), .d (D.s t3.2.2.2.1), .sl 5, .d (D.i t3.2.2.2.2.2), .sl 6, .sl 7, .sl 8, .sl 9, .d (D.i x1.mNow)])), (3, some (.arr 4 (List.map Gx.Listed.enc x1.mList) true)), (4, some (.arr 2 (List.map Gx.Meaning.enc x1.mDict) true)), (5, some (.arr 2 (List.map Gx.Clue.enc t3.2.2.2.2.1) true)), (6, some (.arr 10 (List.map Gx.Issue.enc x1.mIssues) true)), (7, some (.arr 2 (List.map Gx.Used.enc x1.mUses) true)), (8, some (.arr 5 (List.map Gx.Correction.enc x1.mCorrections) true)), (9, some (.arr 4 (List.map Gx.Entry.enc x1.mEntries) true))], 1000⟩) (fun t => t = zt3) ?_ ?_
 ·refine avb ?_
  refine brb h ?_ ?_<;>intro _ h
  ·refine cut_at ((x2.1.mGrid.mRows, x2.1.mGrid.mCols, x2.1.mGrid.mCells, x2.1.mFill, x2.1.mClues, x2.1.mVersion)) (some_in h) ?_
   exact weak_by
  ·refine cut_at ((x1.mDesk.mGrid.mRows, x1.mDesk.mGrid.mCols, x1.mDesk.mGrid.mCells, x1.mDesk.mFill, x1.mDesk.mClues, x1.mDesk.mVersion)) (some_in h) ?_
   exact weak_by
 rintro t3 rfl
 have h : _ = some _ := gt3
 refine avb ?_
 cases h;exact eq_by

theorem l_eqListed_ok (N : Nat) (v0 : Gx.Listed) (v1 : Gx.Listed) {r : Bool} (h : l_eqListed N v0 v1 = some r) : Pure Tryz.prog 82 [DV.agg (Gx.Listed.enc v0), DV.agg (Gx.Listed.enc v1)] (DV.one (D.b r)) := by
 refine pure_of_walk Tryz.tok Tryz.mixed Tryz.func82 (by kernel_rfl) fun W => ?_
 unfold l_eqListed at h
 refine avb ?_
 refine brb h ?_ ?_<;>intro _ h
 ·cases h;exact eq_by
 ·refine brb h ?_ ?_<;>intro _ h
  ·cases h;exact eq_by
  ·refine brb h ?_ ?_<;>intro _ h
   ·cases h;exact eq_by
   ·refine brb h ?_ ?_<;>intro _ h
    ·cases h;exact eq_by
    ·cases h;exact eq_by

theorem l_eqListedS_ok (N : Nat) (v0 : List (Gx.Listed)) (v1 : List (Gx.Listed)) {r : Bool} (h : l_eqListedS N v0 v1 = some r) : Pure Tryz.prog 36 [DV.one (D.sl 4 (List.map Gx.Listed.enc v0)), DV.one (D.sl 4 (List.map Gx.Listed.enc v1))] (DV.one (D.b r)) := by
 refine pure_of_walk Tryz.tok Tryz.mixed Tryz.func36 (by kernel_rfl) fun W => ?_
 unfold l_eqListedS at h
 refine avb ?_
 refine lns (v0.length : Int) ?_
 refine avb ?_
 refine lns (v1.length : Int) ?_
 refine avb ?_
 refine br_sel h (fun _ h => ?_) (fun _ h => ?_)
 ·refine avb ?_
  cases h;exact eq_by
 ·refine ab0 ?_
  obtain ⟨zt4, h, gt4⟩ := cutb_some h
  refine W.r_cut (fun (t4 : Unit) => ⟨[], [], 1000⟩) (fun t => .nx t = zt4) ?_ ?_
  ·refine avb ?_
   refine loop_lp (fun (p1 : Int) => ⟨[(0, .d (D.sl 4 (List.map Gx.Listed.enc v0))), (1, .d (D.sl 4 (List.map Gx.Listed.enc v1))), (5, .d (D.i p1))], [], 1000⟩) h ?_ ?_
   ·exact weak_by
   intro np1 p1 yp1 h hfp1
   unfold l_eqListedS_L1 at h
   refine avb ?_
   refine lns (v0.length : Int) ?_
   refine avb ?_
   refine brb h ?_ ?_<;>intro _ h
   ·refine idx_sel h (fun x1 hx1 h => ?_)
    refine avb ?_
    refine idx_sel h (fun x2 hx2 h => ?_)
    refine avb ?_
    refine plb ?_;refine call_sel (E := fun (x : Bool) => DV.one (D.b x)) h (fun x3 h1 => (l_eqListed_ok N x1 x2 h1)) (fun x3 hx3 h => ?_)
    refine avb ?_
    refine brb h ?_ ?_<;>intro _ h
    ·have h := finr hfp1 h
     have h := cutr gt4 h
     cases h;exact eq_by
    ·exact lbk hfp1 h
   ·have h := finr hfp1 h
    refine cut_at (()) (some_in h) ?_
    exact weak_by
  rintro t4 rfl
  have h : _ = some _ := gt4
  refine avb ?_
  cases h;exact eq_by

theorem l_eqMeaning_ok (N : Nat) (v0 : Gx.Meaning) (v1 : Gx.Meaning) {r : Bool} (h : l_eqMeaning N v0 v1 = some r) : Pure Tryz.prog 83 [DV.agg (Gx.Meaning.enc v0), DV.agg (Gx.Meaning.enc v1)] (DV.one (D.b r)) := by
 refine pure_of_walk Tryz.tok Tryz.mixed Tryz.func83 (by kernel_rfl) fun W => ?_
 unfold l_eqMeaning at h
 refine avb ?_
 refine brb h ?_ ?_<;>intro _ h
 ·cases h;exact eq_by
 ·refine brb h ?_ ?_<;>intro _ h
  ·cases h;exact eq_by
  ·cases h;exact eq_by

theorem l_eqMeaningS_ok (N : Nat) (v0 : List (Gx.Meaning)) (v1 : List (Gx.Meaning)) {r : Bool} (h : l_eqMeaningS N v0 v1 = some r) : Pure Tryz.prog 37 [DV.one (D.sl 2 (List.map Gx.Meaning.enc v0)), DV.one (D.sl 2 (List.map Gx.Meaning.enc v1))] (DV.one (D.b r)) := by
 refine pure_of_walk Tryz.tok Tryz.mixed Tryz.func37 (by kernel_rfl) fun W => ?_
 unfold l_eqMeaningS at h
 refine avb ?_
 refine lns (v0.length : Int) ?_
 refine avb ?_
 refine lns (v1.length : Int) ?_
 refine avb ?_
 refine br_sel h (fun _ h => ?_) (fun _ h => ?_)
 ·refine avb ?_
  cases h;exact eq_by
 ·refine ab0 ?_
  obtain ⟨zt4, h, gt4⟩ := cutb_some h
  refine W.r_cut (fun (t4 : Unit) => ⟨[], [], 1000⟩) (fun t => .nx t = zt4) ?_ ?_
  ·refine avb ?_
   refine loop_lp (fun (p1 : Int) => ⟨[(0, .d (D.sl 2 (List.map Gx.Meaning.enc v0))), (1, .d (D.sl 2 (List.map Gx.Meaning.enc v1))), (5, .d (D.i p1))], [], 1000⟩) h ?_ ?_
   ·exact weak_by
   intro np1 p1 yp1 h hfp1
   unfold l_eqMeaningS_L1 at h
   refine avb ?_
   refine lns (v0.length : Int) ?_
   refine avb ?_
   refine brb h ?_ ?_<;>intro _ h
   ·refine idx_sel h (fun x1 hx1 h => ?_)
    refine avb ?_
    refine idx_sel h (fun x2 hx2 h => ?_)
    refine avb ?_
    refine plb ?_;refine call_sel (E := fun (x : Bool) => DV.one (D.b x)) h (fun x3 h1 => (l_eqMeaning_ok N x1 x2 h1)) (fun x3 hx3 h => ?_)
    refine avb ?_
    refine brb h ?_ ?_<;>intro _ h
    ·have h := finr hfp1 h
     have h := cutr gt4 h
     cases h;exact eq_by
    ·exact lbk hfp1 h
   ·have h := finr hfp1 h
    refine cut_at (()) (some_in h) ?_
    exact weak_by
  rintro t4 rfl
  have h : _ = some _ := gt4
  refine avb ?_
  cases h;exact eq_by

theorem l_eqGrid_ok (N : Nat) (v0 : Gx.Grid) (v1 : Gx.Grid) {r : Bool} (h : l_eqGrid N v0 v1 = some r) : Pure Tryz.prog 84 [DV.agg (Gx.Grid.enc v0), DV.agg (Gx.Grid.enc v1)] (DV.one (D.b r)) := by
 refine pure_of_walk Tryz.tok Tryz.mixed Tryz.func84 (by kernel_rfl) fun W => ?_
 unfold l_eqGrid at h
 refine avb ?_
 refine brb h ?_ ?_<;>intro _ h
 ·cases h;exact eq_by
 ·refine brb h ?_ ?_<;>intro _ h
  ·cases h;exact eq_by
  ·refine brb h ?_ ?_<;>intro _ h
   ·cases h;exact eq_by
   ·cases h;exact eq_by

theorem l_eqStep_ok (N : Nat) (v0 : Gx.Step) (v1 : Gx.Step) {r : Bool} (h : l_eqStep N v0 v1 = some r) : Pure Tryz.prog 205 [DV.agg (Gx.Step.enc v0), DV.agg (Gx.Step.enc v1)] (DV.one (D.b r)) := by
 refine pure_of_walk Tryz.tok Tryz.mixed Tryz.func205 (by kernel_rfl) fun W => ?_
 unfold l_eqStep at h
 refine avb ?_
 refine brb h ?_ ?_<;>intro _ h
 ·cases h;exact eq_by
 ·refine brb h ?_ ?_<;>intro _ h
  ·cases h;exact eq_by
  ·refine brb h ?_ ?_<;>intro _ h
   ·cases h;exact eq_by
   ·refine brb h ?_ ?_<;>intro _ h
    ·cases h;exact eq_by
    ·cases h;exact eq_by

theorem l_eqStepS_ok (N : Nat) (v0 : List (Gx.Step)) (v1 : List (Gx.Step)) {r : Bool} (h : l_eqStepS N v0 v1 = some r) : Pure Tryz.prog 166 [DV.one (D.sl 4 (List.map Gx.Step.enc v0)), DV.one (D.sl 4 (List.map Gx.Step.enc v1))] (DV.one (D.b r)) := by
 refine pure_of_walk Tryz.tok Tryz.mixed Tryz.func166 (by kernel_rfl) fun W => ?_
 unfold l_eqStepS at h
 refine avb ?_
 refine lns (v0.length : Int) ?_
 refine avb ?_
 refine lns (v1.length : Int) ?_
 refine avb ?_
 refine br_sel h (fun _ h => ?_) (fun _ h => ?_)
 ·refine avb ?_
  cases h;exact eq_by
 ·refine ab0 ?_
  obtain ⟨zt4, h, gt4⟩ := cutb_some h
  refine W.r_cut (fun (t4 : Unit) => ⟨[], [], 1000⟩) (fun t => .nx t = zt4) ?_ ?_
  ·refine avb ?_
   refine loop_lp (fun (p1 : Int) => ⟨[(0, .d (D.sl 4 (List.map Gx.Step.enc v0))), (1, .d (D.sl 4 (List.map Gx.Step.enc v1))), (5, .d (D.i p1))], [], 1000⟩) h ?_ ?_
   ·exact weak_by
   intro np1 p1 yp1 h hfp1
   unfold l_eqStepS_L1 at h
   refine avb ?_
   refine lns (v0.length : Int) ?_
   refine avb ?_
   refine brb h ?_ ?_<;>intro _ h
   ·refine idx_sel h (fun x1 hx1 h => ?_)
    refine avb ?_
    refine idx_sel h (fun x2 hx2 h => ?_)
    refine avb ?_
    refine plb ?_;refine call_sel (E := fun (x : Bool) => DV.one (D.b x)) h (fun x3 h1 => (l_eqStep_ok N x1 x2 h1)) (fun x3 hx3 h => ?_)
    refine avb ?_
    refine brb h ?_ ?_<;>intro _ h
    ·have h := finr hfp1 h
     have h := cutr gt4 h
     cases h;exact eq_by
    ·exact lbk hfp1 h
   ·have h := finr hfp1 h
    refine cut_at (()) (some_in h) ?_
    exact weak_by
  rintro t4 rfl
  have h : _ = some _ := gt4
  refine avb ?_
  cases h;exact eq_by

theorem l_eqClue_ok (N : Nat) (v0 : Gx.Clue) (v1 : Gx.Clue) {r : Bool} (h : l_eqClue N v0 v1 = some r) : Pure Tryz.prog 126 [DV.agg (Gx.Clue.enc v0), DV.agg (Gx.Clue.enc v1)] (DV.one (D.b r)) := by
 refine pure_of_walk Tryz.tok Tryz.mixed Tryz.func126 (by kernel_rfl) fun W => ?_
 unfold l_eqClue at h
 refine avb ?_
 refine brb h ?_ ?_<;>intro _ h
 ·cases h;exact eq_by
 ·refine plb ?_;refine call_sel (E := fun (x : Bool) => DV.one (D.b x)) h (fun x1 h1 => (l_eqStepS_ok N v0.mPlay v1.mPlay h1)) (fun x1 hx1 h => ?_)
  refine avb ?_
  refine brb h ?_ ?_<;>intro _ h
  ·cases h;exact eq_by
  ·cases h;exact eq_by

theorem l_eqClueS_ok (N : Nat) (v0 : List (Gx.Clue)) (v1 : List (Gx.Clue)) {r : Bool} (h : l_eqClueS N v0 v1 = some r) : Pure Tryz.prog 85 [DV.one (D.sl 2 (List.map Gx.Clue.enc v0)), DV.one (D.sl 2 (List.map Gx.Clue.enc v1))] (DV.one (D.b r)) := by
 refine pure_of_walk Tryz.tok Tryz.mixed Tryz.func85 (by kernel_rfl) fun W => ?_
 unfold l_eqClueS at h
 refine avb ?_
 refine lns (v0.length : Int) ?_
 refine avb ?_
 refine lns (v1.length : Int) ?_
 refine avb ?_
 refine br_sel h (fun _ h => ?_) (fun _ h => ?_)
 ·refine avb ?_
  cases h;exact eq_by
 ·refine ab0 ?_
  obtain ⟨zt4, h, gt4⟩ := cutb_some h
  refine W.r_cut (fun (t4 : Unit) => ⟨[], [], 1000⟩) (fun t => .nx t = zt4) ?_ ?_
  ·refine avb ?_
   refine loop_lp (fun (p1 : Int) => ⟨[(0, .d (D.sl 2 (List.map Gx.Clue.enc v0))), (1, .d (D.sl 2 (List.map Gx.Clue.enc v1))), (5, .d (D.i p1))], [], 1000⟩) h ?_ ?_
   ·exact weak_by
   intro np1 p1 yp1 h hfp1
   unfold l_eqClueS_L1 at h
   refine avb ?_
   refine lns (v0.length : Int) ?_
   refine avb ?_
   refine brb h ?_ ?_<;>intro _ h
   ·refine idx_sel h (fun x1 hx1 h => ?_)
    refine avb ?_
    refine idx_sel h (fun x2 hx2 h => ?_)
    refine avb ?_
    refine plb ?_;refine call_sel (E := fun (x : Bool) => DV.one (D.b x)) h (fun x3 h1 => (l_eqClue_ok N x1 x2 h1)) (fun x3 hx3 h => ?_)
    refine avb ?_
    refine brb h ?_ ?_<;>intro _ h
    ·have h := finr hfp1 h
     have h := cutr gt4 h
     cases h;exact eq_by
    ·exact lbk hfp1 h
   ·have h := finr hfp1 h
    refine cut_at (()) (some_in h) ?_
    exact weak_by
  rintro t4 rfl
  have h : _ = some _ := gt4
  refine avb ?_
  cases h;exact eq_by

theorem l_eqDraft_ok (N : Nat) (v0 : Gx.Draft) (v1 : Gx.Draft) {r : Bool} (h : l_eqDraft N v0 v1 = some r) : Pure Tryz.prog 38 [DV.agg (Gx.Draft.enc v0), DV.agg (Gx.Draft.enc v1)] (DV.one (D.b r)) := by
 refine pure_of_walk Tryz.tok Tryz.mixed Tryz.func38 (by kernel_rfl) fun W => ?_
 unfold l_eqDraft at h
 refine avb ?_
 refine plb ?_;refine call_sel (E := fun (x : Bool) => DV.one (D.b x)) h (fun x1 h1 => (l_eqGrid_ok N v0.mGrid v1.mGrid h1)) (fun x1 hx1 h => ?_)
 refine avb ?_
 refine brb h ?_ ?_<;>intro _ h
 ·cases h;exact eq_by
 ·refine brb h ?_ ?_<;>intro _ h
  ·cases h;exact eq_by
  ·refine plb ?_;refine call_sel (E := fun (x : Bool) => DV.one (D.b x)) h (fun x2 h1 => (l_eqClueS_ok N v0.mClues v1.mClues h1)) (fun x2 hx2 h => ?_)
   refine avb ?_
   refine brb h ?_ ?_<;>intro _ h
   ·cases h;exact eq_by
   ·refine brb h ?_ ?_<;>intro _ h
    ·cases h;exact eq_by
    ·cases h;exact eq_by

theorem l_eqIntS_ok (N : Nat) (v0 : List (Int)) (v1 : List (Int)) {r : Bool} (h : l_eqIntS N v0 v1 = some r) : Pure Tryz.prog 167 [DV.one (D.sl 1 (List.map Gx.encI v0)), DV.one (D.sl 1 (List.map Gx.encI v1))] (DV.one (D.b r)) := by
 refine pure_of_walk Tryz.tok Tryz.mixed Tryz.func167 (by kernel_rfl) fun W => ?_
 unfold l_eqIntS at h
 refine avb ?_
 refine lns (v0.length : Int) ?_
 refine avb ?_
 refine lns (v1.length : Int) ?_
 refine avb ?_
 refine br_sel h (fun _ h => ?_) (fun _ h => ?_)
 ·refine avb ?_
  cases h;exact eq_by
 ·refine ab0 ?_
  obtain ⟨zt3, h, gt3⟩ := cutb_some h
  refine W.r_cut (fun (t3 : Unit) => ⟨[], [], 1000⟩) (fun t => .nx t = zt3) ?_ ?_
  ·refine avb ?_
   refine loop_lp (fun (p1 : Int) => ⟨[(0, .d (D.sl 1 (List.map Gx.encI v0))), (1, .d (D.sl 1 (List.map Gx.encI v1))), (5, .d (D.i p1))], [], 1000⟩) h ?_ ?_
   ·exact weak_by
   intro np1 p1 yp1 h hfp1
   unfold l_eqIntS_L1 at h
   refine avb ?_
   refine lns (v0.length : Int) ?_
   refine avb ?_
   refine brb h ?_ ?_<;>intro _ h
   ·refine idx_sel h (fun x1 hx1 h => ?_)
    refine avb ?_
    refine idx_sel h (fun x2 hx2 h => ?_)
    refine avb ?_
    refine brb h ?_ ?_<;>intro _ h
    ·have h := finr hfp1 h
     have h := cutr gt3 h
     cases h;exact eq_by
    ·exact lbk hfp1 h
   ·have h := finr hfp1 h
    refine cut_at (()) (some_in h) ?_
    exact weak_by
  rintro t3 rfl
  have h : _ = some _ := gt3
  refine avb ?_
  cases h;exact eq_by

theorem l_eqPuzzle_ok (N : Nat) (v0 : Gx.Puzzle) (v1 : Gx.Puzzle) {r : Bool} (h : l_eqPuzzle N v0 v1 = some r) : Pure Tryz.prog 127 [DV.agg (Gx.Puzzle.enc v0), DV.agg (Gx.Puzzle.enc v1)] (DV.one (D.b r)) := by
 refine pure_of_walk Tryz.tok Tryz.mixed Tryz.func127 (by kernel_rfl) fun W => ?_
 unfold l_eqPuzzle at h
 refine avb ?_
 refine plb ?_;refine call_sel (E := fun (x : Bool) => DV.one (D.b x)) h (fun x1 h1 => (l_eqGrid_ok N v0.mGrid v1.mGrid h1)) (fun x1 hx1 h => ?_)
 refine avb ?_
 refine brb h ?_ ?_<;>intro _ h
 ·cases h;exact eq_by
 ·refine plb ?_;refine call_sel (E := fun (x : Bool) => DV.one (D.b x)) h (fun x2 h1 => (l_eqClueS_ok N v0.mClues v1.mClues h1)) (fun x2 hx2 h => ?_)
  refine avb ?_
  refine brb h ?_ ?_<;>intro _ h
  ·cases h;exact eq_by
  ·refine plb ?_;refine call_sel (E := fun (x : Bool) => DV.one (D.b x)) h (fun x3 h1 => (l_eqIntS_ok N v0.mSeals v1.mSeals h1)) (fun x3 hx3 h => ?_)
   refine avb ?_
   refine brb h ?_ ?_<;>intro _ h
   ·cases h;exact eq_by
   ·refine brb h ?_ ?_<;>intro _ h
    ·cases h;exact eq_by
    ·cases h;exact eq_by

theorem l_eqIssue_ok (N : Nat) (v0 : Gx.Issue) (v1 : Gx.Issue) {r : Bool} (h : l_eqIssue N v0 v1 = some r) : Pure Tryz.prog 86 [DV.agg (Gx.Issue.enc v0), DV.agg (Gx.Issue.enc v1)] (DV.one (D.b r)) := by
 refine pure_of_walk Tryz.tok Tryz.mixed Tryz.func86 (by kernel_rfl) fun W => ?_
 unfold l_eqIssue at h
 refine avb ?_
 refine brb h ?_ ?_<;>intro _ h
 ·cases h;exact eq_by
 ·refine plb ?_;refine call_sel (E := fun (x : Bool) => DV.one (D.b x)) h (fun x1 h1 => (l_eqPuzzle_ok N v0.mPuzzle v1.mPuzzle h1)) (fun x1 hx1 h => ?_)
  refine avb ?_
  refine brb h ?_ ?_<;>intro _ h
  ·cases h;exact eq_by
  ·refine brb h ?_ ?_<;>intro _ h
   ·cases h;exact eq_by
   ·refine brb h ?_ ?_<;>intro _ h
    ·cases h;exact eq_by
    ·refine brb h ?_ ?_<;>intro _ h
     ·cases h;exact eq_by
     ·cases h;exact eq_by

theorem l_eqIssueS_ok (N : Nat) (v0 : List (Gx.Issue)) (v1 : List (Gx.Issue)) {r : Bool} (h : l_eqIssueS N v0 v1 = some r) : Pure Tryz.prog 39 [DV.one (D.sl 10 (List.map Gx.Issue.enc v0)), DV.one (D.sl 10 (List.map Gx.Issue.enc v1))] (DV.one (D.b r)) := by
 refine pure_of_walk Tryz.tok Tryz.mixed Tryz.func39 (by kernel_rfl) fun W => ?_
 unfold l_eqIssueS at h
 refine avb ?_
 refine lns (v0.length : Int) ?_
 refine avb ?_
 refine lns (v1.length : Int) ?_
 refine avb ?_
 refine br_sel h (fun _ h => ?_) (fun _ h => ?_)
 ·refine avb ?_
  cases h;exact eq_by
 ·refine ab0 ?_
  obtain ⟨zt4, h, gt4⟩ := cutb_some h
  refine W.r_cut (fun (t4 : Unit) => ⟨[], [], 1000⟩) (fun t => .nx t = zt4) ?_ ?_
  ·refine avb ?_
   refine loop_lp (fun (p1 : Int) => ⟨[(0, .d (D.sl 10 (List.map Gx.Issue.enc v0))), (1, .d (D.sl 10 (List.map Gx.Issue.enc v1))), (5, .d (D.i p1))], [], 1000⟩) h ?_ ?_
   ·exact weak_by
   intro np1 p1 yp1 h hfp1
   unfold l_eqIssueS_L1 at h
   refine avb ?_
   refine lns (v0.length : Int) ?_
   refine avb ?_
   refine brb h ?_ ?_<;>intro _ h
   ·refine idx_sel h (fun x1 hx1 h => ?_)
    refine avb ?_
    refine idx_sel h (fun x2 hx2 h => ?_)
    refine avb ?_
    refine plb ?_;refine call_sel (E := fun (x : Bool) => DV.one (D.b x)) h (fun x3 h1 => (l_eqIssue_ok N x1 x2 h1)) (fun x3 hx3 h => ?_)
    refine avb ?_
    refine brb h ?_ ?_<;>intro _ h
    ·have h := finr hfp1 h
     have h := cutr gt4 h
     cases h;exact eq_by
    ·exact lbk hfp1 h
   ·have h := finr hfp1 h
    refine cut_at (()) (some_in h) ?_
    exact weak_by
  rintro t4 rfl
  have h : _ = some _ := gt4
  refine avb ?_
  cases h;exact eq_by

theorem l_eqUsed_ok (N : Nat) (v0 : Gx.Used) (v1 : Gx.Used) {r : Bool} (h : l_eqUsed N v0 v1 = some r) : Pure Tryz.prog 87 [DV.agg (Gx.Used.enc v0), DV.agg (Gx.Used.enc v1)] (DV.one (D.b r)) := by
 refine pure_of_walk Tryz.tok Tryz.mixed Tryz.func87 (by kernel_rfl) fun W => ?_
 unfold l_eqUsed at h
 refine avb ?_
 refine brb h ?_ ?_<;>intro _ h
 ·cases h;exact eq_by
 ·refine brb h ?_ ?_<;>intro _ h
  ·cases h;exact eq_by
  ·cases h;exact eq_by

theorem l_eqUsedS_ok (N : Nat) (v0 : List (Gx.Used)) (v1 : List (Gx.Used)) {r : Bool} (h : l_eqUsedS N v0 v1 = some r) : Pure Tryz.prog 40 [DV.one (D.sl 2 (List.map Gx.Used.enc v0)), DV.one (D.sl 2 (List.map Gx.Used.enc v1))] (DV.one (D.b r)) := by
 refine pure_of_walk Tryz.tok Tryz.mixed Tryz.func40 (by kernel_rfl) fun W => ?_
 unfold l_eqUsedS at h
 refine avb ?_
 refine lns (v0.length : Int) ?_
 refine avb ?_
 refine lns (v1.length : Int) ?_
 refine avb ?_
 refine br_sel h (fun _ h => ?_) (fun _ h => ?_)
 ·refine avb ?_
  cases h;exact eq_by
 ·refine ab0 ?_
  obtain ⟨zt4, h, gt4⟩ := cutb_some h
  refine W.r_cut (fun (t4 : Unit) => ⟨[], [], 1000⟩) (fun t => .nx t = zt4) ?_ ?_
  ·refine avb ?_
   refine loop_lp (fun (p1 : Int) => ⟨[(0, .d (D.sl 2 (List.map Gx.Used.enc v0))), (1, .d (D.sl 2 (List.map Gx.Used.enc v1))), (5, .d (D.i p1))], [], 1000⟩) h ?_ ?_
   ·exact weak_by
   intro np1 p1 yp1 h hfp1
   unfold l_eqUsedS_L1 at h
   refine avb ?_
   refine lns (v0.length : Int) ?_
   refine avb ?_
   refine brb h ?_ ?_<;>intro _ h
   ·refine idx_sel h (fun x1 hx1 h => ?_)
    refine avb ?_
    refine idx_sel h (fun x2 hx2 h => ?_)
    refine avb ?_
    refine plb ?_;refine call_sel (E := fun (x : Bool) => DV.one (D.b x)) h (fun x3 h1 => (l_eqUsed_ok N x1 x2 h1)) (fun x3 hx3 h => ?_)
    refine avb ?_
    refine brb h ?_ ?_<;>intro _ h
    ·have h := finr hfp1 h
     have h := cutr gt4 h
     cases h;exact eq_by
    ·exact lbk hfp1 h
   ·have h := finr hfp1 h
    refine cut_at (()) (some_in h) ?_
    exact weak_by
  rintro t4 rfl
  have h : _ = some _ := gt4
  refine avb ?_
  cases h;exact eq_by

theorem l_eqCorrection_ok (N : Nat) (v0 : Gx.Correction) (v1 : Gx.Correction) {r : Bool} (h : l_eqCorrection N v0 v1 = some r) : Pure Tryz.prog 88 [DV.agg (Gx.Correction.enc v0), DV.agg (Gx.Correction.enc v1)] (DV.one (D.b r)) := by
 refine pure_of_walk Tryz.tok Tryz.mixed Tryz.func88 (by kernel_rfl) fun W => ?_
 unfold l_eqCorrection at h
 refine avb ?_
 refine brb h ?_ ?_<;>intro _ h
 ·cases h;exact eq_by
 ·refine brb h ?_ ?_<;>intro _ h
  ·cases h;exact eq_by
  ·refine plb ?_;refine call_sel (E := fun (x : Bool) => DV.one (D.b x)) h (fun x1 h1 => (l_eqClue_ok N v0.mClue v1.mClue h1)) (fun x1 hx1 h => ?_)
   refine avb ?_
   refine brb h ?_ ?_<;>intro _ h
   ·cases h;exact eq_by
   ·refine brb h ?_ ?_<;>intro _ h
    ·cases h;exact eq_by
    ·cases h;exact eq_by

theorem l_eqCorrectionS_ok (N : Nat) (v0 : List (Gx.Correction)) (v1 : List (Gx.Correction)) {r : Bool} (h : l_eqCorrectionS N v0 v1 = some r) : Pure Tryz.prog 41 [DV.one (D.sl 5 (List.map Gx.Correction.enc v0)), DV.one (D.sl 5 (List.map Gx.Correction.enc v1))] (DV.one (D.b r)) := by
 refine pure_of_walk Tryz.tok Tryz.mixed Tryz.func41 (by kernel_rfl) fun W => ?_
 unfold l_eqCorrectionS at h
 refine avb ?_
 refine lns (v0.length : Int) ?_
 refine avb ?_
 refine lns (v1.length : Int) ?_
 refine avb ?_
 refine br_sel h (fun _ h => ?_) (fun _ h => ?_)
 ·refine avb ?_
  cases h;exact eq_by
 ·refine ab0 ?_
  obtain ⟨zt4, h, gt4⟩ := cutb_some h
  refine W.r_cut (fun (t4 : Unit) => ⟨[], [], 1000⟩) (fun t => .nx t = zt4) ?_ ?_
  ·refine avb ?_
   refine loop_lp (fun (p1 : Int) => ⟨[(0, .d (D.sl 5 (List.map Gx.Correction.enc v0))), (1, .d (D.sl 5 (List.map Gx.Correction.enc v1))), (5, .d (D.i p1))], [], 1000⟩) h ?_ ?_
   ·exact weak_by
   intro np1 p1 yp1 h hfp1
   unfold l_eqCorrectionS_L1 at h
   refine avb ?_
   refine lns (v0.length : Int) ?_
   refine avb ?_
   refine brb h ?_ ?_<;>intro _ h
   ·refine idx_sel h (fun x1 hx1 h => ?_)
    refine avb ?_
    refine idx_sel h (fun x2 hx2 h => ?_)
    refine avb ?_
    refine plb ?_;refine call_sel (E := fun (x : Bool) => DV.one (D.b x)) h (fun x3 h1 => (l_eqCorrection_ok N x1 x2 h1)) (fun x3 hx3 h => ?_)
    refine avb ?_
    refine brb h ?_ ?_<;>intro _ h
    ·have h := finr hfp1 h
     have h := cutr gt4 h
     cases h;exact eq_by
    ·exact lbk hfp1 h
   ·have h := finr hfp1 h
    refine cut_at (()) (some_in h) ?_
    exact weak_by
  rintro t4 rfl
  have h : _ = some _ := gt4
  refine avb ?_
  cases h;exact eq_by

theorem l_eqEntry_ok (N : Nat) (v0 : Gx.Entry) (v1 : Gx.Entry) {r : Bool} (h : l_eqEntry N v0 v1 = some r) : Pure Tryz.prog 89 [DV.agg (Gx.Entry.enc v0), DV.agg (Gx.Entry.enc v1)] (DV.one (D.b r)) := by
 refine pure_of_walk Tryz.tok Tryz.mixed Tryz.func89 (by kernel_rfl) fun W => ?_
 unfold l_eqEntry at h
 refine avb ?_
 refine brb h ?_ ?_<;>intro _ h
 ·cases h;exact eq_by
 ·refine brb h ?_ ?_<;>intro _ h
  ·cases h;exact eq_by
  ·refine brb h ?_ ?_<;>intro _ h
   ·cases h;exact eq_by
   ·refine brb h ?_ ?_<;>intro _ h
    ·cases h;exact eq_by
    ·cases h;exact eq_by

theorem l_eqEntryS_ok (N : Nat) (v0 : List (Gx.Entry)) (v1 : List (Gx.Entry)) {r : Bool} (h : l_eqEntryS N v0 v1 = some r) : Pure Tryz.prog 42 [DV.one (D.sl 4 (List.map Gx.Entry.enc v0)), DV.one (D.sl 4 (List.map Gx.Entry.enc v1))] (DV.one (D.b r)) := by
 refine pure_of_walk Tryz.tok Tryz.mixed Tryz.func42 (by kernel_rfl) fun W => ?_
 unfold l_eqEntryS at h
 refine avb ?_
 refine lns (v0.length : Int) ?_
 refine avb ?_
 refine lns (v1.length : Int) ?_
 refine avb ?_
 refine br_sel h (fun _ h => ?_) (fun _ h => ?_)
 ·refine avb ?_
  cases h;exact eq_by
 ·refine ab0 ?_
  obtain ⟨zt4, h, gt4⟩ := cutb_some h
  refine W.r_cut (fun (t4 : Unit) => ⟨[], [], 1000⟩) (fun t => .nx t = zt4) ?_ ?_
  ·refine avb ?_
   refine loop_lp (fun (p1 : Int) => ⟨[(0, .d (D.sl 4 (List.map Gx.Entry.enc v0))), (1, .d (D.sl 4 (List.map Gx.Entry.enc v1))), (5, .d (D.i p1))], [], 1000⟩) h ?_ ?_
   ·exact weak_by
   intro np1 p1 yp1 h hfp1
   unfold l_eqEntryS_L1 at h
   refine avb ?_
   refine lns (v0.length : Int) ?_
   refine avb ?_
   refine brb h ?_ ?_<;>intro _ h
   ·refine idx_sel h (fun x1 hx1 h => ?_)
    refine avb ?_
    refine idx_sel h (fun x2 hx2 h => ?_)
    refine avb ?_
    refine plb ?_;refine call_sel (E := fun (x : Bool) => DV.one (D.b x)) h (fun x3 h1 => (l_eqEntry_ok N x1 x2 h1)) (fun x3 hx3 h => ?_)
    refine avb ?_
    refine brb h ?_ ?_<;>intro _ h
    ·have h := finr hfp1 h
     have h := cutr gt4 h
     cases h;exact eq_by
    ·exact lbk hfp1 h
   ·have h := finr hfp1 h
    refine cut_at (()) (some_in h) ?_
    exact weak_by
  rintro t4 rfl
  have h : _ = some _ := gt4
  refine avb ?_
  cases h;exact eq_by

theorem l_eqHouse_ok (N : Nat) (v0 : Gx.House) (v1 : Gx.House) {r : Bool} (h : l_eqHouse N v0 v1 = some r) : Pure Tryz.prog 9 [DV.agg (Gx.House.enc v0), DV.agg (Gx.House.enc v1)] (DV.one (D.b r)) := by
 refine pure_of_walk Tryz.tok Tryz.mixed Tryz.func9 (by kernel_rfl) fun W => ?_
 unfold l_eqHouse at h
 refine avb ?_
 refine plb ?_;refine call_sel (E := fun (x : Bool) => DV.one (D.b x)) h (fun x1 h1 => (l_eqListedS_ok N v0.mList v1.mList h1)) (fun x1 hx1 h => ?_)
 refine avb ?_
 refine brb h ?_ ?_<;>intro _ h
 ·cases h;exact eq_by
 ·refine plb ?_;refine call_sel (E := fun (x : Bool) => DV.one (D.b x)) h (fun x2 h1 => (l_eqMeaningS_ok N v0.mDict v1.mDict h1)) (fun x2 hx2 h => ?_)
  refine avb ?_
  refine brb h ?_ ?_<;>intro _ h
  ·cases h;exact eq_by
  ·refine plb ?_;refine call_sel (E := fun (x : Bool) => DV.one (D.b x)) h (fun x3 h1 => (l_eqDraft_ok N v0.mDesk v1.mDesk h1)) (fun x3 hx3 h => ?_)
   refine avb ?_
   refine brb h ?_ ?_<;>intro _ h
   ·cases h;exact eq_by
   ·refine plb ?_;refine call_sel (E := fun (x : Bool) => DV.one (D.b x)) h (fun x4 h1 => (l_eqIssueS_ok N v0.mIssues v1.mIssues h1)) (fun x4 hx4 h => ?_)
    refine avb ?_
    refine brb h ?_ ?_<;>intro _ h
    ·cases h;exact eq_by
    ·refine plb ?_;refine call_sel (E := fun (x : Bool) => DV.one (D.b x)) h (fun x5 h1 => (l_eqUsedS_ok N v0.mUses v1.mUses h1)) (fun x5 hx5 h => ?_)
     refine avb ?_
     refine brb h ?_ ?_<;>intro _ h
     ·cases h;exact eq_by
     ·refine plb ?_;refine call_sel (E := fun (x : Bool) => DV.one (D.b x)) h (fun x6 h1 => (l_eqCorrectionS_ok N v0.mCorrections v1.mCorrections h1)) (fun x6 hx6 h => ?_)
      refine avb ?_
      refine brb h ?_ ?_<;>intro _ h
      ·cases h;exact eq_by
      ·refine plb ?_;refine call_sel (E := fun (x : Bool) => DV.one (D.b x)) h (fun x7 h1 => (l_eqEntryS_ok N v0.mEntries v1.mEntries h1)) (fun x7 hx7 h => ?_)
       refine avb ?_
       refine brb h ?_ ?_<;>intro _ h
       ·cases h;exact eq_by
       ·refine brb h ?_ ?_<;>intro _ h
        ·cases h;exact eq_by
        ·cases h;exact eq_by

theorem l_markText_ok (N : Nat) (v0 : Int) {r : (List UInt8)} (h : l_markText N v0 = some r) : Pure Tryz.prog 104 [DV.one (D.i v0)] (DV.one (D.s r)) := by
 refine pure_of_walk Tryz.tok Tryz.mixed Tryz.func104 (by kernel_rfl) fun W => ?_
 unfold l_markText at h
 refine avb ?_
 refine br_sel h (fun _ h => ?_) (fun _ h => ?_)
 ·refine avb ?_
  cases h;exact eq_by
 ·refine ab0 ?_
  refine W.r_seq ?_
  refine ab0 ?_
  obtain ⟨zt1, h, gt1⟩ := bnd_some h
  refine W.r_cut (fun (t1 : (List UInt8)) => ⟨[(3, .d (D.s t1))], [], 1000⟩) (fun t => t = zt1) ?_ ?_
  ·refine avb ?_
   refine loop_lp (fun (p1 : Int × (List UInt8)) => ⟨[(0, .d (D.i p1.1)), (3, .d (D.s p1.2))], [], 1000⟩) h ?_ ?_
   ·exact weak_by
   intro np1 p1 yp1 h hfp1
   unfold l_markText_L1 at h
   refine avb ?_
   refine brb h ?_ ?_<;>intro _ h
   ·refine chk_sel h (fun q => q) (fun h => ?_)
    refine avb ?_
    refine ⟨[UInt8.ofInt (IntKind.u8.wrap (w64 (48 + (Int.tmod p1.1 10))))], (by (exact eq_by)), ?_⟩
    refine avb ?_
    refine chk_sel h (fun q => Nat.le_trans q (by decide)) (fun h => ?_)
    refine avb ?_
    refine chk_sel h (fun q => q) (fun h => ?_)
    refine avb ?_
    exact lbk hfp1 h
   ·have h := finr hfp1 h
    refine cut_at (p1.2) (some_in h) ?_
    exact weak_by
  rintro t1 rfl
  have h : _ = some _ := gt1
  refine avb ?_
  refine chk_sel h (fun q => Nat.le_trans q (by decide)) (fun h => ?_)
  refine avb ?_
  cases h;exact eq_by

theorem l_markListedS_ok (N : Nat) (v0 : List (Gx.Listed)) (v1 : Int) {r : (List (Gx.Listed)) × Int} (h : l_markListedS N v0 v1 = some r) : Turn Tryz.prog 47 [.sl 0, .d (D.i v1)] [.deep 4 (List.map Gx.Listed.enc v0)] [some (.deep 4 (List.map Gx.Listed.enc r.1))] (.d (D.i r.2)) := by
 refine turn_of_walk Tryz.tok Tryz.mixed Tryz.func47 (by kernel_rfl) rfl fun W => ?_
 unfold l_markListedS at h
 refine ab0 ?_
 refine W.r_seq ?_
 refine ab0 ?_
 obtain ⟨zt6, h, gt6⟩ := bnd_some h
 refine W.r_cut (fun (t6 : (List (Gx.Listed)) × Int) => ⟨[(1, .d (D.i t6.2))], [(1, some (.deep 4 (List.map Gx.Listed.enc t6.1))), (990, some (.pin [.sl 1]))], 1000⟩) (fun t => t = zt6) ?_ ?_
 ·refine avb ?_
  refine loop_lp (fun (p1 : (List (Gx.Listed)) × Int × Int) => ⟨[(0, .sl 1), (1, .d (D.i p1.2.1)), (5, .d (D.i p1.2.2))], [(1, some (.deep 4 (List.map Gx.Listed.enc p1.1))), (990, some (.pin [.sl 1]))], 1000⟩) h ?_ ?_
  ·exact weak_by
  intro np1 p1 yp1 h hfp1
  unfold l_markListedS_L1 at h
  refine avb ?_
  refine lns (p1.1.length : Int) ?_
  refine avb ?_
  refine brb h ?_ ?_<;>intro _ h
  ·refine plb ?_;refine call_sel (E := fun (x : (List UInt8)) => DV.one (D.s x)) h (fun x1 h1 => (l_markText_ok N p1.2.1 h1)) (fun x1 hx1 h => ?_)
   refine avb ?_
   refine idxp_sel h (fun x2 hx2 h => ?_)
   refine avb ?_
   refine ldp_sel hx2 ?_
   refine avb ?_
   refine idxp_raw (show _ = List.map Gx.Listed.enc (List.set p1.1 (Int.toNat p1.2.2) (⟨x1, x2.mFrom, x2.mUntil, x2.mScore⟩ : Gx.Listed)) by (exact eq_by)) h (fun x3 hx3 h => ?_)
   refine avb ?_
   refine ldp_raw (show _ = List.map Gx.Listed.enc (List.set p1.1 (Int.toNat p1.2.2) (⟨x1, x2.mFrom, x2.mUntil, x2.mScore⟩ : Gx.Listed)) by (exact eq_by)) hx3 ?_
   refine avb ?_
   refine idxp_raw (show _ = List.map Gx.Listed.enc (List.set p1.1 (Int.toNat p1.2.2) (⟨x3.mWord, w64 (p1.2.1 + 1), x3.mUntil, x3.mScore⟩ : Gx.Listed)) by (exact eq_by)) h (fun x4 hx4 h => ?_)
   refine avb ?_
   refine ldp_raw (show _ = List.map Gx.Listed.enc (List.set p1.1 (Int.toNat p1.2.2) (⟨x3.mWord, w64 (p1.2.1 + 1), x3.mUntil, x3.mScore⟩ : Gx.Listed)) by (exact eq_by)) hx4 ?_
   refine avb ?_
   refine idxp_raw (show _ = List.map Gx.Listed.enc (List.set p1.1 (Int.toNat p1.2.2) (⟨x4.mWord, x4.mFrom, w64 ((w64 (p1.2.1 + 1)) + 1), x4.mScore⟩ : Gx.Listed)) by (exact eq_by)) h (fun x5 hx5 h => ?_)
   refine avb ?_
   refine ldp_raw (show _ = List.map Gx.Listed.enc (List.set p1.1 (Int.toNat p1.2.2) (⟨x4.mWord, x4.mFrom, w64 ((w64 (p1.2.1 + 1)) + 1), x4.mScore⟩ : Gx.Listed)) by (exact eq_by)) hx5 ?_
   refine avb ?_
   exact lbk hfp1 h
  ·have h := finr hfp1 h
   refine cut_at ((p1.1, p1.2.1)) (some_in h) ?_
   exact weak_by
 rintro t6 rfl
 have h : _ = some _ := gt6
 refine avb ?_
 obtain rfl := some_in h
 exact ⟨cons_eq (some_deep (by (exact eq_by))) (rfl), by (exact eq_by)⟩

theorem l_markMeaningS_ok (N : Nat) (v0 : List (Gx.Meaning)) (v1 : Int) {r : (List (Gx.Meaning)) × Int} (h : l_markMeaningS N v0 v1 = some r) : Turn Tryz.prog 48 [.sl 0, .d (D.i v1)] [.deep 2 (List.map Gx.Meaning.enc v0)] [some (.deep 2 (List.map Gx.Meaning.enc r.1))] (.d (D.i r.2)) := by
 refine turn_of_walk Tryz.tok Tryz.mixed Tryz.func48 (by kernel_rfl) rfl fun W => ?_
 unfold l_markMeaningS at h
 refine ab0 ?_
 refine W.r_seq ?_
 refine ab0 ?_
 obtain ⟨zt4, h, gt4⟩ := bnd_some h
 refine W.r_cut (fun (t4 : (List (Gx.Meaning)) × Int) => ⟨[(1, .d (D.i t4.2))], [(1, some (.deep 2 (List.map Gx.Meaning.enc t4.1))), (990, some (.pin [.sl 1]))], 1000⟩) (fun t => t = zt4) ?_ ?_
 ·refine avb ?_
  refine loop_lp (fun (p1 : (List (Gx.Meaning)) × Int × Int) => ⟨[(0, .sl 1), (1, .d (D.i p1.2.1)), (5, .d (D.i p1.2.2))], [(1, some (.deep 2 (List.map Gx.Meaning.enc p1.1))), (990, some (.pin [.sl 1]))], 1000⟩) h ?_ ?_
  ·exact weak_by
  intro np1 p1 yp1 h hfp1
  unfold l_markMeaningS_L1 at h
  refine avb ?_
  refine lns (p1.1.length : Int) ?_
  refine avb ?_
  refine brb h ?_ ?_<;>intro _ h
  ·refine plb ?_;refine call_sel (E := fun (x : (List UInt8)) => DV.one (D.s x)) h (fun x1 h1 => (l_markText_ok N p1.2.1 h1)) (fun x1 hx1 h => ?_)
   refine avb ?_
   refine idxp_sel h (fun x2 hx2 h => ?_)
   refine avb ?_
   refine ldp_sel hx2 ?_
   refine avb ?_
   refine idxp_raw (show _ = List.map Gx.Meaning.enc (List.set p1.1 (Int.toNat p1.2.2) (⟨x1, x2.mSense⟩ : Gx.Meaning)) by (exact eq_by)) h (fun x3 hx3 h => ?_)
   refine avb ?_
   refine ldp_raw (show _ = List.map Gx.Meaning.enc (List.set p1.1 (Int.toNat p1.2.2) (⟨x1, x2.mSense⟩ : Gx.Meaning)) by (exact eq_by)) hx3 ?_
   refine avb ?_
   exact lbk hfp1 h
  ·have h := finr hfp1 h
   refine cut_at ((p1.1, p1.2.1)) (some_in h) ?_
   exact weak_by
 rintro t4 rfl
 have h : _ = some _ := gt4
 refine avb ?_
 obtain rfl := some_in h
 exact ⟨cons_eq (some_deep (by (exact eq_by))) (rfl), by (exact eq_by)⟩

theorem l_markStepS_ok (N : Nat) (v0 : List (Gx.Step)) (v1 : Int) {r : (List (Gx.Step)) × Int} (h : l_markStepS N v0 v1 = some r) : Turn Tryz.prog 107 [.sl 0, .d (D.i v1)] [.deep 4 (List.map Gx.Step.enc v0)] [some (.deep 4 (List.map Gx.Step.enc r.1))] (.d (D.i r.2)) := by
 refine turn_of_walk Tryz.tok Tryz.mixed Tryz.func107 (by kernel_rfl) rfl fun W => ?_
 unfold l_markStepS at h
 refine ab0 ?_
 refine W.r_seq ?_
 refine ab0 ?_
 obtain ⟨zt6, h, gt6⟩ := bnd_some h
 refine W.r_cut (fun (t6 : (List (Gx.Step)) × Int) => ⟨[(1, .d (D.i t6.2))], [(1, some (.deep 4 (List.map Gx.Step.enc t6.1))), (990, some (.pin [.sl 1]))], 1000⟩) (fun t => t = zt6) ?_ ?_
 ·refine avb ?_
  refine loop_lp (fun (p1 : (List (Gx.Step)) × Int × Int) => ⟨[(0, .sl 1), (1, .d (D.i p1.2.1)), (5, .d (D.i p1.2.2))], [(1, some (.deep 4 (List.map Gx.Step.enc p1.1))), (990, some (.pin [.sl 1]))], 1000⟩) h ?_ ?_
  ·exact weak_by
  intro np1 p1 yp1 h hfp1
  unfold l_markStepS_L1 at h
  refine avb ?_
  refine lns (p1.1.length : Int) ?_
  refine avb ?_
  refine brb h ?_ ?_<;>intro _ h
  ·refine idxp_sel h (fun x1 hx1 h => ?_)
   refine avb ?_
   refine ldp_sel hx1 ?_
   refine avb ?_
   refine plb ?_;refine call_sel (E := fun (x : (List UInt8)) => DV.one (D.s x)) h (fun x2 h1 => (l_markText_ok N (w64 (p1.2.1 + 1)) h1)) (fun x2 hx2 h => ?_)
   refine avb ?_
   refine idxp_raw (show _ = List.map Gx.Step.enc (List.set p1.1 (Int.toNat p1.2.2) (⟨p1.2.1, x1.mWord, x1.mA, x1.mB⟩ : Gx.Step)) by (exact eq_by)) h (fun x3 hx3 h => ?_)
   refine avb ?_
   refine ldp_raw (show _ = List.map Gx.Step.enc (List.set p1.1 (Int.toNat p1.2.2) (⟨p1.2.1, x1.mWord, x1.mA, x1.mB⟩ : Gx.Step)) by (exact eq_by)) hx3 ?_
   refine avb ?_
   refine idxp_raw (show _ = List.map Gx.Step.enc (List.set p1.1 (Int.toNat p1.2.2) (⟨x3.mKind, x2, x3.mA, x3.mB⟩ : Gx.Step)) by (exact eq_by)) h (fun x4 hx4 h => ?_)
   refine avb ?_
   refine ldp_raw (show _ = List.map Gx.Step.enc (List.set p1.1 (Int.toNat p1.2.2) (⟨x3.mKind, x2, x3.mA, x3.mB⟩ : Gx.Step)) by (exact eq_by)) hx4 ?_
   refine avb ?_
   refine idxp_raw (show _ = List.map Gx.Step.enc (List.set p1.1 (Int.toNat p1.2.2) (⟨x4.mKind, x4.mWord, w64 ((w64 (p1.2.1 + 1)) + 1), x4.mB⟩ : Gx.Step)) by (exact eq_by)) h (fun x5 hx5 h => ?_)
   refine avb ?_
   refine ldp_raw (show _ = List.map Gx.Step.enc (List.set p1.1 (Int.toNat p1.2.2) (⟨x4.mKind, x4.mWord, w64 ((w64 (p1.2.1 + 1)) + 1), x4.mB⟩ : Gx.Step)) by (exact eq_by)) hx5 ?_
   refine avb ?_
   exact lbk hfp1 h
  ·have h := finr hfp1 h
   refine cut_at ((p1.1, p1.2.1)) (some_in h) ?_
   exact weak_by
 rintro t6 rfl
 have h : _ = some _ := gt6
 refine avb ?_
 obtain rfl := some_in h
 exact ⟨cons_eq (some_deep (by (exact eq_by))) (rfl), by (exact eq_by)⟩

theorem l_markClueS_ok (N : Nat) (v0 : List (Gx.Clue)) (v1 : Int) {r : (List (Gx.Clue)) × Int} (h : l_markClueS N v0 v1 = some r) : Turn Tryz.prog 105 [.sl 0, .d (D.i v1)] [.deep 2 (List.map Gx.Clue.enc v0)] [some (.deep 2 (List.map Gx.Clue.enc r.1))] (.d (D.i r.2)) := by
 refine turn_of_walk Tryz.tok Tryz.mixed Tryz.func105 (by kernel_rfl) rfl fun W => ?_
 unfold l_markClueS at h
 refine ab0 ?_
 refine W.r_seq ?_
 refine ab0 ?_
 obtain ⟨zt4, h, gt4⟩ := bnd_some h
 refine W.r_cut (fun (t4 : (List (Gx.Clue)) × Int) => ⟨[(1, .d (D.i t4.2))], [(1, some (.deep 2 (List.map Gx.Clue.enc t4.1))), (990, some (.pin [.sl 1]))], 1000⟩) (fun t => t = zt4) ?_ ?_
 ·refine avb ?_
  refine loop_lp (fun (p1 : (List (Gx.Clue)) × Int × Int) => ⟨[(0, .sl 1), (1, .d (D.i p1.2.1)), (5, .d (D.i p1.2.2))], [(1, some (.deep 2 (List.map Gx.Clue.enc p1.1))), (990, some (.pin [.sl 1]))], 1000⟩) h ?_ ?_
  ·exact weak_by
  intro np1 p1 yp1 h hfp1
  unfold l_markClueS_L1 at h
  refine avb ?_
  refine lns (p1.1.length : Int) ?_
  refine avb ?_
  refine brb h ?_ ?_<;>intro _ h
  ·refine idxp_sel h (fun x1 hx1 h => ?_)
   refine avb ?_
   refine ldp_sel hx1 ?_
   refine avb ?_
   refine idxp_raw (show _ = List.map Gx.Clue.enc (List.set p1.1 (Int.toNat p1.2.2) (⟨p1.2.1, x1.mPlay⟩ : Gx.Clue)) by (exact eq_by)) h (fun x2 hx2 h => ?_)
   refine avb ?_
   refine ldp_raw (show _ = List.map Gx.Clue.enc (List.set p1.1 (Int.toNat p1.2.2) (⟨p1.2.1, x1.mPlay⟩ : Gx.Clue)) by (exact eq_by)) hx2 ?_
   refine avb ?_
   refine clb ?_;refine ldp_raw (show _ = List.map Gx.Clue.enc (List.set p1.1 (Int.toNat p1.2.2) (⟨p1.2.1, x1.mPlay⟩ : Gx.Clue)) by (exact eq_by)) hx2 ?_;refine whb ?_;refine cturn_sel (R := fun (x3 : (List (Gx.Step)) × Int) => List.map Gx.Step.enc x3.1) (X := fun (x3 : (List (Gx.Step)) × Int) => Value.int .i64 x3.2) h (fun x3 h1 => (l_markStepS_ok N x2.mPlay (w64 (p1.2.1 + 1)) h1)) (fun x3 hx3 h => ?_)
   refine avb ?_
   exact lbk hfp1 h
  ·have h := finr hfp1 h
   refine cut_at ((p1.1, p1.2.1)) (some_in h) ?_
   exact weak_by
 rintro t4 rfl
 have h : _ = some _ := gt4
 refine avb ?_
 obtain rfl := some_in h
 exact ⟨cons_eq (some_deep (by (exact eq_by))) (rfl), by (exact eq_by)⟩

theorem l_markDraft_ok (N : Nat) (v0 : Gx.Draft) (v1 : Int) {r : (List (Gx.Clue)) × Int} (h : l_markDraft N v0 v1 = some r) : Turn Tryz.prog 49 [.agg [.d (D.i v0.mGrid.mRows), .d (D.i v0.mGrid.mCols), .d (D.s v0.mGrid.mCells), .d (D.s v0.mFill), .sl 0, .d (D.i v0.mVersion)], .d (D.i v1)] [.deep 2 (List.map Gx.Clue.enc v0.mClues)] [some (.deep 2 (List.map Gx.Clue.enc r.1))] (.d (D.i r.2)) := by
 refine turn_of_walk Tryz.tok Tryz.mixed Tryz.func49 (by kernel_rfl) rfl fun W => ?_
 unfold l_markDraft at h
 refine avb ?_
 refine qtb ?_;refine turn_sel (O := fun (x1 : (List (Gx.Clue)) × Int) => [some (.deep 2 (List.map Gx.Clue.enc x1.1))]) (V := fun (x1 : (List (Gx.Clue)) × Int) => .d (D.i x1.2)) h trivial (fun x1 h1 => (l_markClueS_ok N v0.mClues v1 h1)) (fun x1 hx1 h => ?_)
 refine avb ?_
 obtain rfl := some_in h
 exact ⟨cons_eq (some_deep (by (exact eq_by))) (rfl), by (exact eq_by)⟩

theorem l_markIntS_ok (N : Nat) (v0 : List (Int)) (v1 : Int) {r : (List (Int)) × Int} (h : l_markIntS N v0 v1 = some r) : Turn Tryz.prog 106 [.sl 0, .d (D.i v1)] [.deep 1 (List.map Gx.encI v0)] [some (.deep 1 (List.map Gx.encI r.1))] (.d (D.i r.2)) := by
 refine turn_of_walk Tryz.tok Tryz.mixed Tryz.func106 (by kernel_rfl) rfl fun W => ?_
 unfold l_markIntS at h
 refine ab0 ?_
 refine W.r_seq ?_
 refine ab0 ?_
 obtain ⟨zt2, h, gt2⟩ := bnd_some h
 refine W.r_cut (fun (t2 : (List (Int)) × Int) => ⟨[(1, .d (D.i t2.2))], [(1, some (.deep 1 (List.map Gx.encI t2.1))), (990, some (.pin [.sl 1]))], 1000⟩) (fun t => t = zt2) ?_ ?_
 ·refine avb ?_
  refine loop_lp (fun (p1 : (List (Int)) × Int × Int) => ⟨[(0, .sl 1), (1, .d (D.i p1.2.1)), (5, .d (D.i p1.2.2))], [(1, some (.deep 1 (List.map Gx.encI p1.1))), (990, some (.pin [.sl 1]))], 1000⟩) h ?_ ?_
  ·exact weak_by
  intro np1 p1 yp1 h hfp1
  unfold l_markIntS_L1 at h
  refine avb ?_
  refine lns (p1.1.length : Int) ?_
  refine avb ?_
  refine brb h ?_ ?_<;>intro _ h
  ·refine idxp_sel h (fun x1 hx1 h => ?_)
   refine avb ?_
   refine ldp_sel hx1 ?_
   refine avb ?_
   exact lbk hfp1 h
  ·have h := finr hfp1 h
   refine cut_at ((p1.1, p1.2.1)) (some_in h) ?_
   exact weak_by
 rintro t2 rfl
 have h : _ = some _ := gt2
 refine avb ?_
 obtain rfl := some_in h
 exact ⟨cons_eq (some_deep (by (exact eq_by))) (rfl), by (exact eq_by)⟩

theorem l_markIssueS_ok (N : Nat) (v0 : List (Gx.Issue)) (v1 : Int) {r : (List (Gx.Issue)) × Int} (h : l_markIssueS N v0 v1 = some r) : Turn Tryz.prog 50 [.sl 0, .d (D.i v1)] [.deep 10 (List.map Gx.Issue.enc v0)] [some (.deep 10 (List.map Gx.Issue.enc r.1))] (.d (D.i r.2)) := by
 refine turn_of_walk Tryz.tok Tryz.mixed Tryz.func50 (by kernel_rfl) rfl fun W => ?_
 unfold l_markIssueS at h
 refine ab0 ?_
 refine W.r_seq ?_
 refine ab0 ?_
 obtain ⟨zt15, h, gt15⟩ := bnd_some h
 refine W.r_cut (fun (t15 : (List (Gx.Issue)) × Int) => ⟨[(1, .d (D.i t15.2))], [(1, some (.deep 10 (List.map Gx.Issue.enc t15.1))), (990, some (.pin [.sl 1]))], 1000⟩) (fun t => t = zt15) ?_ ?_
 ·refine avb ?_
  refine loop_lp (fun (p1 : (List (Gx.Issue)) × Int × Int) => ⟨[(0, .sl 1), (1, .d (D.i p1.2.1)), (5, .d (D.i p1.2.2))], [(1, some (.deep 10 (List.map Gx.Issue.enc p1.1))), (990, some (.pin [.sl 1]))], 1000⟩) h ?_ ?_
  ·exact weak_by
  intro np1 p1 yp1 h hfp1
  unfold l_markIssueS_L1 at h
  refine avb ?_
  refine lns (p1.1.length : Int) ?_
  refine avb ?_
  refine brb h ?_ ?_<;>intro _ h
  ·refine idxp_sel h (fun x1 hx1 h => ?_)
   refine avb ?_
   refine ldp_sel hx1 ?_
   refine avb ?_
   refine idxp_raw (show _ = List.map Gx.Issue.enc (List.set p1.1 (Int.toNat p1.2.2) (⟨p1.2.1, (⟨(⟨x1.mPuzzle.mGrid.mRows, x1.mPuzzle.mGrid.mCols, x1.mPuzzle.mGrid.mCells⟩ : Gx.Grid), x1.mPuzzle.mClues, x1.mPuzzle.mSeals, x1.mPuzzle.mSalt⟩ : Gx.Puzzle), x1.mFill, x1.mOpen, x1.mClose⟩ : Gx.Issue)) by (exact eq_by)) h (fun x2 hx2 h => ?_)
   refine avb ?_
   refine ldp_raw (show _ = List.map Gx.Issue.enc (List.set p1.1 (Int.toNat p1.2.2) (⟨p1.2.1, (⟨(⟨x1.mPuzzle.mGrid.mRows, x1.mPuzzle.mGrid.mCols, x1.mPuzzle.mGrid.mCells⟩ : Gx.Grid), x1.mPuzzle.mClues, x1.mPuzzle.mSeals, x1.mPuzzle.mSalt⟩ : Gx.Puzzle), x1.mFill, x1.mOpen, x1.mClose⟩ : Gx.Issue)) by (exact eq_by)) hx2 ?_
   refine avb ?_
   refine idxp_raw (show _ = List.map Gx.Issue.enc (List.set p1.1 (Int.toNat p1.2.2) (⟨x2.mNumber, (⟨(⟨w64 (p1.2.1 + 1), x2.mPuzzle.mGrid.mCols, x2.mPuzzle.mGrid.mCells⟩ : Gx.Grid), x2.mPuzzle.mClues, x2.mPuzzle.mSeals, x2.mPuzzle.mSalt⟩ : Gx.Puzzle), x2.mFill, x2.mOpen, x2.mClose⟩ : Gx.Issue)) by (exact eq_by)) h (fun x3 hx3 h => ?_)
   refine avb ?_
   refine ldp_raw (show _ = List.map Gx.Issue.enc (List.set p1.1 (Int.toNat p1.2.2) (⟨x2.mNumber, (⟨(⟨w64 (p1.2.1 + 1), x2.mPuzzle.mGrid.mCols, x2.mPuzzle.mGrid.mCells⟩ : Gx.Grid), x2.mPuzzle.mClues, x2.mPuzzle.mSeals, x2.mPuzzle.mSalt⟩ : Gx.Puzzle), x2.mFill, x2.mOpen, x2.mClose⟩ : Gx.Issue)) by (exact eq_by)) hx3 ?_
   refine avb ?_
   refine plb ?_;refine call_sel (E := fun (x : (List UInt8)) => DV.one (D.s x)) h (fun x4 h1 => (l_markText_ok N (w64 ((w64 ((w64 (p1.2.1 + 1)) + 1)) + 1)) h1)) (fun x4 hx4 h => ?_)
   refine avb ?_
   refine idxp_raw (show _ = List.map Gx.Issue.enc (List.set p1.1 (Int.toNat p1.2.2) (⟨x3.mNumber, (⟨(⟨x3.mPuzzle.mGrid.mRows, w64 ((w64 (p1.2.1 + 1)) + 1), x3.mPuzzle.mGrid.mCells⟩ : Gx.Grid), x3.mPuzzle.mClues, x3.mPuzzle.mSeals, x3.mPuzzle.mSalt⟩ : Gx.Puzzle), x3.mFill, x3.mOpen, x3.mClose⟩ : Gx.Issue)) by (exact eq_by)) h (fun x5 hx5 h => ?_)
   refine avb ?_
   refine ldp_raw (show _ = List.map Gx.Issue.enc (List.set p1.1 (Int.toNat p1.2.2) (⟨x3.mNumber, (⟨(⟨x3.mPuzzle.mGrid.mRows, w64 ((w64 (p1.2.1 + 1)) + 1), x3.mPuzzle.mGrid.mCells⟩ : Gx.Grid), x3.mPuzzle.mClues, x3.mPuzzle.mSeals, x3.mPuzzle.mSalt⟩ : Gx.Puzzle), x3.mFill, x3.mOpen, x3.mClose⟩ : Gx.Issue)) by (exact eq_by)) hx5 ?_
   refine avb ?_
   refine idxp_raw (show _ = List.map Gx.Issue.enc (List.set p1.1 (Int.toNat p1.2.2) (⟨x5.mNumber, (⟨(⟨x5.mPuzzle.mGrid.mRows, x5.mPuzzle.mGrid.mCols, x4⟩ : Gx.Grid), x5.mPuzzle.mClues, x5.mPuzzle.mSeals, x5.mPuzzle.mSalt⟩ : Gx.Puzzle), x5.mFill, x5.mOpen, x5.mClose⟩ : Gx.Issue)) by (exact eq_by)) h (fun x6 hx6 h => ?_)
   refine avb ?_
   refine ldp_raw (show _ = List.map Gx.Issue.enc (List.set p1.1 (Int.toNat p1.2.2) (⟨x5.mNumber, (⟨(⟨x5.mPuzzle.mGrid.mRows, x5.mPuzzle.mGrid.mCols, x4⟩ : Gx.Grid), x5.mPuzzle.mClues, x5.mPuzzle.mSeals, x5.mPuzzle.mSalt⟩ : Gx.Puzzle), x5.mFill, x5.mOpen, x5.mClose⟩ : Gx.Issue)) by (exact eq_by)) hx6 ?_
   refine avb ?_
   refine clb ?_;refine ldp_raw (show _ = List.map Gx.Issue.enc (List.set p1.1 (Int.toNat p1.2.2) (⟨x5.mNumber, (⟨(⟨x5.mPuzzle.mGrid.mRows, x5.mPuzzle.mGrid.mCols, x4⟩ : Gx.Grid), x5.mPuzzle.mClues, x5.mPuzzle.mSeals, x5.mPuzzle.mSalt⟩ : Gx.Puzzle), x5.mFill, x5.mOpen, x5.mClose⟩ : Gx.Issue)) by (exact eq_by)) hx6 ?_;refine whb ?_;refine cturn_sel (R := fun (x7 : (List (Gx.Clue)) × Int) => List.map Gx.Clue.enc x7.1) (X := fun (x7 : (List (Gx.Clue)) × Int) => Value.int .i64 x7.2) h (fun x7 h1 => (l_markClueS_ok N x6.mPuzzle.mClues (w64 ((w64 ((w64 ((w64 (p1.2.1 + 1)) + 1)) + 1)) + 1)) h1)) (fun x7 hx7 h => ?_)
   refine avb ?_
   refine idxp_raw (show _ = List.map Gx.Issue.enc (List.set p1.1 (Int.toNat p1.2.2) (⟨x6.mNumber, (⟨(⟨x6.mPuzzle.mGrid.mRows, x6.mPuzzle.mGrid.mCols, x6.mPuzzle.mGrid.mCells⟩ : Gx.Grid), x7.1, x6.mPuzzle.mSeals, x6.mPuzzle.mSalt⟩ : Gx.Puzzle), x6.mFill, x6.mOpen, x6.mClose⟩ : Gx.Issue)) by (exact eq_by)) h (fun x8 hx8 h => ?_)
   refine avb ?_
   refine ldp_raw (show _ = List.map Gx.Issue.enc (List.set p1.1 (Int.toNat p1.2.2) (⟨x6.mNumber, (⟨(⟨x6.mPuzzle.mGrid.mRows, x6.mPuzzle.mGrid.mCols, x6.mPuzzle.mGrid.mCells⟩ : Gx.Grid), x7.1, x6.mPuzzle.mSeals, x6.mPuzzle.mSalt⟩ : Gx.Puzzle), x6.mFill, x6.mOpen, x6.mClose⟩ : Gx.Issue)) by (exact eq_by)) hx8 ?_
   refine avb ?_
   refine clb ?_;refine ldp_raw (show _ = List.map Gx.Issue.enc (List.set p1.1 (Int.toNat p1.2.2) (⟨x6.mNumber, (⟨(⟨x6.mPuzzle.mGrid.mRows, x6.mPuzzle.mGrid.mCols, x6.mPuzzle.mGrid.mCells⟩ : Gx.Grid), x7.1, x6.mPuzzle.mSeals, x6.mPuzzle.mSalt⟩ : Gx.Puzzle), x6.mFill, x6.mOpen, x6.mClose⟩ : Gx.Issue)) by (exact eq_by)) hx8 ?_;refine whb ?_;refine cturn_sel (R := fun (x9 : (List (Int)) × Int) => List.map Gx.encI x9.1) (X := fun (x9 : (List (Int)) × Int) => Value.int .i64 x9.2) h (fun x9 h1 => (l_markIntS_ok N x8.mPuzzle.mSeals x7.2 h1)) (fun x9 hx9 h => ?_)
   refine avb ?_
   refine idxp_raw (show _ = List.map Gx.Issue.enc (List.set p1.1 (Int.toNat p1.2.2) (⟨x8.mNumber, (⟨(⟨x8.mPuzzle.mGrid.mRows, x8.mPuzzle.mGrid.mCols, x8.mPuzzle.mGrid.mCells⟩ : Gx.Grid), x8.mPuzzle.mClues, x9.1, x8.mPuzzle.mSalt⟩ : Gx.Puzzle), x8.mFill, x8.mOpen, x8.mClose⟩ : Gx.Issue)) by (exact eq_by)) h (fun x10 hx10 h => ?_)
   refine avb ?_
   refine ldp_raw (show _ = List.map Gx.Issue.enc (List.set p1.1 (Int.toNat p1.2.2) (⟨x8.mNumber, (⟨(⟨x8.mPuzzle.mGrid.mRows, x8.mPuzzle.mGrid.mCols, x8.mPuzzle.mGrid.mCells⟩ : Gx.Grid), x8.mPuzzle.mClues, x9.1, x8.mPuzzle.mSalt⟩ : Gx.Puzzle), x8.mFill, x8.mOpen, x8.mClose⟩ : Gx.Issue)) by (exact eq_by)) hx10 ?_
   refine avb ?_
   refine plb ?_;refine call_sel (E := fun (x : (List UInt8)) => DV.one (D.s x)) h (fun x11 h1 => (l_markText_ok N (w64 (x9.2 + 1)) h1)) (fun x11 hx11 h => ?_)
   refine avb ?_
   refine idxp_raw (show _ = List.map Gx.Issue.enc (List.set p1.1 (Int.toNat p1.2.2) (⟨x10.mNumber, (⟨(⟨x10.mPuzzle.mGrid.mRows, x10.mPuzzle.mGrid.mCols, x10.mPuzzle.mGrid.mCells⟩ : Gx.Grid), x10.mPuzzle.mClues, x10.mPuzzle.mSeals, x9.2⟩ : Gx.Puzzle), x10.mFill, x10.mOpen, x10.mClose⟩ : Gx.Issue)) by (exact eq_by)) h (fun x12 hx12 h => ?_)
   refine avb ?_
   refine ldp_raw (show _ = List.map Gx.Issue.enc (List.set p1.1 (Int.toNat p1.2.2) (⟨x10.mNumber, (⟨(⟨x10.mPuzzle.mGrid.mRows, x10.mPuzzle.mGrid.mCols, x10.mPuzzle.mGrid.mCells⟩ : Gx.Grid), x10.mPuzzle.mClues, x10.mPuzzle.mSeals, x9.2⟩ : Gx.Puzzle), x10.mFill, x10.mOpen, x10.mClose⟩ : Gx.Issue)) by (exact eq_by)) hx12 ?_
   refine avb ?_
   refine idxp_raw (show _ = List.map Gx.Issue.enc (List.set p1.1 (Int.toNat p1.2.2) (⟨x12.mNumber, (⟨(⟨x12.mPuzzle.mGrid.mRows, x12.mPuzzle.mGrid.mCols, x12.mPuzzle.mGrid.mCells⟩ : Gx.Grid), x12.mPuzzle.mClues, x12.mPuzzle.mSeals, x12.mPuzzle.mSalt⟩ : Gx.Puzzle), x11, x12.mOpen, x12.mClose⟩ : Gx.Issue)) by (exact eq_by)) h (fun x13 hx13 h => ?_)
   refine avb ?_
   refine ldp_raw (show _ = List.map Gx.Issue.enc (List.set p1.1 (Int.toNat p1.2.2) (⟨x12.mNumber, (⟨(⟨x12.mPuzzle.mGrid.mRows, x12.mPuzzle.mGrid.mCols, x12.mPuzzle.mGrid.mCells⟩ : Gx.Grid), x12.mPuzzle.mClues, x12.mPuzzle.mSeals, x12.mPuzzle.mSalt⟩ : Gx.Puzzle), x11, x12.mOpen, x12.mClose⟩ : Gx.Issue)) by (exact eq_by)) hx13 ?_
   refine avb ?_
   refine idxp_raw (show _ = List.map Gx.Issue.enc (List.set p1.1 (Int.toNat p1.2.2) (⟨x13.mNumber, (⟨(⟨x13.mPuzzle.mGrid.mRows, x13.mPuzzle.mGrid.mCols, x13.mPuzzle.mGrid.mCells⟩ : Gx.Grid), x13.mPuzzle.mClues, x13.mPuzzle.mSeals, x13.mPuzzle.mSalt⟩ : Gx.Puzzle), x13.mFill, w64 ((w64 (x9.2 + 1)) + 1), x13.mClose⟩ : Gx.Issue)) by (exact eq_by)) h (fun x14 hx14 h => ?_)
   refine avb ?_
   refine ldp_raw (show _ = List.map Gx.Issue.enc (List.set p1.1 (Int.toNat p1.2.2) (⟨x13.mNumber, (⟨(⟨x13.mPuzzle.mGrid.mRows, x13.mPuzzle.mGrid.mCols, x13.mPuzzle.mGrid.mCells⟩ : Gx.Grid), x13.mPuzzle.mClues, x13.mPuzzle.mSeals, x13.mPuzzle.mSalt⟩ : Gx.Puzzle), x13.mFill, w64 ((w64 (x9.2 + 1)) + 1), x13.mClose⟩ : Gx.Issue)) by (exact eq_by)) hx14 ?_
   refine avb ?_
   exact lbk hfp1 h
  ·have h := finr hfp1 h
   refine cut_at ((p1.1, p1.2.1)) (some_in h) ?_
   exact weak_by
 rintro t15 rfl
 have h : _ = some _ := gt15
 refine avb ?_
 obtain rfl := some_in h
 exact ⟨cons_eq (some_deep (by (exact eq_by))) (rfl), by (exact eq_by)⟩

theorem l_markUsedS_ok (N : Nat) (v0 : List (Gx.Used)) (v1 : Int) {r : (List (Gx.Used)) × Int} (h : l_markUsedS N v0 v1 = some r) : Turn Tryz.prog 51 [.sl 0, .d (D.i v1)] [.deep 2 (List.map Gx.Used.enc v0)] [some (.deep 2 (List.map Gx.Used.enc r.1))] (.d (D.i r.2)) := by
 refine turn_of_walk Tryz.tok Tryz.mixed Tryz.func51 (by kernel_rfl) rfl fun W => ?_
 unfold l_markUsedS at h
 refine ab0 ?_
 refine W.r_seq ?_
 refine ab0 ?_
 obtain ⟨zt4, h, gt4⟩ := bnd_some h
 refine W.r_cut (fun (t4 : (List (Gx.Used)) × Int) => ⟨[(1, .d (D.i t4.2))], [(1, some (.deep 2 (List.map Gx.Used.enc t4.1))), (990, some (.pin [.sl 1]))], 1000⟩) (fun t => t = zt4) ?_ ?_
 ·refine avb ?_
  refine loop_lp (fun (p1 : (List (Gx.Used)) × Int × Int) => ⟨[(0, .sl 1), (1, .d (D.i p1.2.1)), (5, .d (D.i p1.2.2))], [(1, some (.deep 2 (List.map Gx.Used.enc p1.1))), (990, some (.pin [.sl 1]))], 1000⟩) h ?_ ?_
  ·exact weak_by
  intro np1 p1 yp1 h hfp1
  unfold l_markUsedS_L1 at h
  refine avb ?_
  refine lns (p1.1.length : Int) ?_
  refine avb ?_
  refine brb h ?_ ?_<;>intro _ h
  ·refine plb ?_;refine call_sel (E := fun (x : (List UInt8)) => DV.one (D.s x)) h (fun x1 h1 => (l_markText_ok N p1.2.1 h1)) (fun x1 hx1 h => ?_)
   refine avb ?_
   refine idxp_sel h (fun x2 hx2 h => ?_)
   refine avb ?_
   refine ldp_sel hx2 ?_
   refine avb ?_
   refine idxp_raw (show _ = List.map Gx.Used.enc (List.set p1.1 (Int.toNat p1.2.2) (⟨x1, x2.mIssue⟩ : Gx.Used)) by (exact eq_by)) h (fun x3 hx3 h => ?_)
   refine avb ?_
   refine ldp_raw (show _ = List.map Gx.Used.enc (List.set p1.1 (Int.toNat p1.2.2) (⟨x1, x2.mIssue⟩ : Gx.Used)) by (exact eq_by)) hx3 ?_
   refine avb ?_
   exact lbk hfp1 h
  ·have h := finr hfp1 h
   refine cut_at ((p1.1, p1.2.1)) (some_in h) ?_
   exact weak_by
 rintro t4 rfl
 have h : _ = some _ := gt4
 refine avb ?_
 obtain rfl := some_in h
 exact ⟨cons_eq (some_deep (by (exact eq_by))) (rfl), by (exact eq_by)⟩

theorem l_markCorrectionS_ok (N : Nat) (v0 : List (Gx.Correction)) (v1 : Int) {r : (List (Gx.Correction)) × Int} (h : l_markCorrectionS N v0 v1 = some r) : Turn Tryz.prog 52 [.sl 0, .d (D.i v1)] [.deep 5 (List.map Gx.Correction.enc v0)] [some (.deep 5 (List.map Gx.Correction.enc r.1))] (.d (D.i r.2)) := by
 refine turn_of_walk Tryz.tok Tryz.mixed Tryz.func52 (by kernel_rfl) rfl fun W => ?_
 unfold l_markCorrectionS at h
 refine ab0 ?_
 refine W.r_seq ?_
 refine ab0 ?_
 obtain ⟨zt7, h, gt7⟩ := bnd_some h
 refine W.r_cut (fun (t7 : (List (Gx.Correction)) × Int) => ⟨[(1, .d (D.i t7.2))], [(1, some (.deep 5 (List.map Gx.Correction.enc t7.1))), (990, some (.pin [.sl 1]))], 1000⟩) (fun t => t = zt7) ?_ ?_
 ·refine avb ?_
  refine loop_lp (fun (p1 : (List (Gx.Correction)) × Int × Int) => ⟨[(0, .sl 1), (1, .d (D.i p1.2.1)), (5, .d (D.i p1.2.2))], [(1, some (.deep 5 (List.map Gx.Correction.enc p1.1))), (990, some (.pin [.sl 1]))], 1000⟩) h ?_ ?_
  ·exact weak_by
  intro np1 p1 yp1 h hfp1
  unfold l_markCorrectionS_L1 at h
  refine avb ?_
  refine lns (p1.1.length : Int) ?_
  refine avb ?_
  refine brb h ?_ ?_<;>intro _ h
  ·refine idxp_sel h (fun x1 hx1 h => ?_)
   refine avb ?_
   refine ldp_sel hx1 ?_
   refine avb ?_
   refine idxp_raw (show _ = List.map Gx.Correction.enc (List.set p1.1 (Int.toNat p1.2.2) (⟨p1.2.1, x1.mSlot, (⟨x1.mClue.mSense, x1.mClue.mPlay⟩ : Gx.Clue), x1.mTick⟩ : Gx.Correction)) by (exact eq_by)) h (fun x2 hx2 h => ?_)
   refine avb ?_
   refine ldp_raw (show _ = List.map Gx.Correction.enc (List.set p1.1 (Int.toNat p1.2.2) (⟨p1.2.1, x1.mSlot, (⟨x1.mClue.mSense, x1.mClue.mPlay⟩ : Gx.Clue), x1.mTick⟩ : Gx.Correction)) by (exact eq_by)) hx2 ?_
   refine avb ?_
   refine idxp_raw (show _ = List.map Gx.Correction.enc (List.set p1.1 (Int.toNat p1.2.2) (⟨x2.mIssue, w64 (p1.2.1 + 1), (⟨x2.mClue.mSense, x2.mClue.mPlay⟩ : Gx.Clue), x2.mTick⟩ : Gx.Correction)) by (exact eq_by)) h (fun x3 hx3 h => ?_)
   refine avb ?_
   refine ldp_raw (show _ = List.map Gx.Correction.enc (List.set p1.1 (Int.toNat p1.2.2) (⟨x2.mIssue, w64 (p1.2.1 + 1), (⟨x2.mClue.mSense, x2.mClue.mPlay⟩ : Gx.Clue), x2.mTick⟩ : Gx.Correction)) by (exact eq_by)) hx3 ?_
   refine avb ?_
   refine idxp_raw (show _ = List.map Gx.Correction.enc (List.set p1.1 (Int.toNat p1.2.2) (⟨x3.mIssue, x3.mSlot, (⟨w64 ((w64 (p1.2.1 + 1)) + 1), x3.mClue.mPlay⟩ : Gx.Clue), x3.mTick⟩ : Gx.Correction)) by (exact eq_by)) h (fun x4 hx4 h => ?_)
   refine avb ?_
   refine ldp_raw (show _ = List.map Gx.Correction.enc (List.set p1.1 (Int.toNat p1.2.2) (⟨x3.mIssue, x3.mSlot, (⟨w64 ((w64 (p1.2.1 + 1)) + 1), x3.mClue.mPlay⟩ : Gx.Clue), x3.mTick⟩ : Gx.Correction)) by (exact eq_by)) hx4 ?_
   refine avb ?_
   refine clb ?_;refine ldp_raw (show _ = List.map Gx.Correction.enc (List.set p1.1 (Int.toNat p1.2.2) (⟨x3.mIssue, x3.mSlot, (⟨w64 ((w64 (p1.2.1 + 1)) + 1), x3.mClue.mPlay⟩ : Gx.Clue), x3.mTick⟩ : Gx.Correction)) by (exact eq_by)) hx4 ?_;refine whb ?_;refine cturn_sel (R := fun (x5 : (List (Gx.Step)) × Int) => List.map Gx.Step.enc x5.1) (X := fun (x5 : (List (Gx.Step)) × Int) => Value.int .i64 x5.2) h (fun x5 h1 => (l_markStepS_ok N x4.mClue.mPlay (w64 ((w64 ((w64 (p1.2.1 + 1)) + 1)) + 1)) h1)) (fun x5 hx5 h => ?_)
   refine avb ?_
   refine idxp_raw (show _ = List.map Gx.Correction.enc (List.set p1.1 (Int.toNat p1.2.2) (⟨x4.mIssue, x4.mSlot, (⟨x4.mClue.mSense, x5.1⟩ : Gx.Clue), x4.mTick⟩ : Gx.Correction)) by (exact eq_by)) h (fun x6 hx6 h => ?_)
   refine avb ?_
   refine ldp_raw (show _ = List.map Gx.Correction.enc (List.set p1.1 (Int.toNat p1.2.2) (⟨x4.mIssue, x4.mSlot, (⟨x4.mClue.mSense, x5.1⟩ : Gx.Clue), x4.mTick⟩ : Gx.Correction)) by (exact eq_by)) hx6 ?_
   refine avb ?_
   exact lbk hfp1 h
  ·have h := finr hfp1 h
   refine cut_at ((p1.1, p1.2.1)) (some_in h) ?_
   exact weak_by
 rintro t7 rfl
 have h : _ = some _ := gt7
 refine avb ?_
 obtain rfl := some_in h
 exact ⟨cons_eq (some_deep (by (exact eq_by))) (rfl), by (exact eq_by)⟩

theorem l_markEntryS_ok (N : Nat) (v0 : List (Gx.Entry)) (v1 : Int) {r : (List (Gx.Entry)) × Int} (h : l_markEntryS N v0 v1 = some r) : Turn Tryz.prog 53 [.sl 0, .d (D.i v1)] [.deep 4 (List.map Gx.Entry.enc v0)] [some (.deep 4 (List.map Gx.Entry.enc r.1))] (.d (D.i r.2)) := by
 refine turn_of_walk Tryz.tok Tryz.mixed Tryz.func53 (by kernel_rfl) rfl fun W => ?_
 unfold l_markEntryS at h
 refine ab0 ?_
 refine W.r_seq ?_
 refine ab0 ?_
 obtain ⟨zt6, h, gt6⟩ := bnd_some h
 refine W.r_cut (fun (t6 : (List (Gx.Entry)) × Int) => ⟨[(1, .d (D.i t6.2))], [(1, some (.deep 4 (List.map Gx.Entry.enc t6.1))), (990, some (.pin [.sl 1]))], 1000⟩) (fun t => t = zt6) ?_ ?_
 ·refine avb ?_
  refine loop_lp (fun (p1 : (List (Gx.Entry)) × Int × Int) => ⟨[(0, .sl 1), (1, .d (D.i p1.2.1)), (5, .d (D.i p1.2.2))], [(1, some (.deep 4 (List.map Gx.Entry.enc p1.1))), (990, some (.pin [.sl 1]))], 1000⟩) h ?_ ?_
  ·exact weak_by
  intro np1 p1 yp1 h hfp1
  unfold l_markEntryS_L1 at h
  refine avb ?_
  refine lns (p1.1.length : Int) ?_
  refine avb ?_
  refine brb h ?_ ?_<;>intro _ h
  ·refine idxp_sel h (fun x1 hx1 h => ?_)
   refine avb ?_
   refine ldp_sel hx1 ?_
   refine avb ?_
   refine idxp_raw (show _ = List.map Gx.Entry.enc (List.set p1.1 (Int.toNat p1.2.2) (⟨p1.2.1, x1.mIssue, x1.mTick, x1.mFill⟩ : Gx.Entry)) by (exact eq_by)) h (fun x2 hx2 h => ?_)
   refine avb ?_
   refine ldp_raw (show _ = List.map Gx.Entry.enc (List.set p1.1 (Int.toNat p1.2.2) (⟨p1.2.1, x1.mIssue, x1.mTick, x1.mFill⟩ : Gx.Entry)) by (exact eq_by)) hx2 ?_
   refine avb ?_
   refine idxp_raw (show _ = List.map Gx.Entry.enc (List.set p1.1 (Int.toNat p1.2.2) (⟨x2.mPlayer, w64 (p1.2.1 + 1), x2.mTick, x2.mFill⟩ : Gx.Entry)) by (exact eq_by)) h (fun x3 hx3 h => ?_)
   refine avb ?_
   refine ldp_raw (show _ = List.map Gx.Entry.enc (List.set p1.1 (Int.toNat p1.2.2) (⟨x2.mPlayer, w64 (p1.2.1 + 1), x2.mTick, x2.mFill⟩ : Gx.Entry)) by (exact eq_by)) hx3 ?_
   refine avb ?_
   refine plb ?_;refine call_sel (E := fun (x : (List UInt8)) => DV.one (D.s x)) h (fun x4 h1 => (l_markText_ok N (w64 ((w64 ((w64 (p1.2.1 + 1)) + 1)) + 1)) h1)) (fun x4 hx4 h => ?_)
   refine avb ?_
   refine idxp_raw (show _ = List.map Gx.Entry.enc (List.set p1.1 (Int.toNat p1.2.2) (⟨x3.mPlayer, x3.mIssue, w64 ((w64 (p1.2.1 + 1)) + 1), x3.mFill⟩ : Gx.Entry)) by (exact eq_by)) h (fun x5 hx5 h => ?_)
   refine avb ?_
   refine ldp_raw (show _ = List.map Gx.Entry.enc (List.set p1.1 (Int.toNat p1.2.2) (⟨x3.mPlayer, x3.mIssue, w64 ((w64 (p1.2.1 + 1)) + 1), x3.mFill⟩ : Gx.Entry)) by (exact eq_by)) hx5 ?_
   refine avb ?_
   exact lbk hfp1 h
  ·have h := finr hfp1 h
   refine cut_at ((p1.1, p1.2.1)) (some_in h) ?_
   exact weak_by
 rintro t6 rfl
 have h : _ = some _ := gt6
 refine avb ?_
 obtain rfl := some_in h
 exact ⟨cons_eq (some_deep (by (exact eq_by))) (rfl), by (exact eq_by)⟩

theorem l_markHouse_ok (N : Nat) (v0 : Gx.House) (v1 : Int) {r : (List (Gx.Listed)) × (List (Gx.Meaning)) × (List (Gx.Clue)) × (List (Gx.Issue)) × (List (Gx.Used)) × (List (Gx.Correction)) × (List (Gx.Entry)) × Int} (h : l_markHouse N v0 v1 = some r) : Turn Tryz.prog 14 [.agg [.sl 0, .sl 1, .d (D.i v0.mDesk.mGrid.mRows), .d (D.i v0.mDesk.mGrid.mCols), .d (D.s v0.mDesk.mGrid.mCells), .d (D.s v0.mDesk.mFill), .sl 2, .d (D.i v0.mDesk.mVersion), .sl 3, .sl 4, .sl 5, .sl 6, .d (D.i v0.mNow)], .d (D.i v1)] [.deep 4 (List.map Gx.Listed.enc v0.mList), .deep 2 (List.map Gx.Meaning.enc v0.mDict), .deep 2 (List.map Gx.Clue.enc v0.mDesk.mClues), .deep 10 (List.map Gx.Issue.enc v0.mIssues), .deep 2 (List.map Gx.Used.enc v0.mUses), .deep 5 (List.map Gx.Correction.enc v0.mCorrections), .deep 4 (List.map Gx.Entry.enc v0.mEntries)] [some (.deep 4 (List.map Gx.Listed.enc r.1)), some (.deep 2 (List.map Gx.Meaning.enc r.2.1)), some (.deep 2 (List.map Gx.Clue.enc r.2.2.1)), some (.deep 10 (List.map Gx.Issue.enc r.2.2.2.1)), some (.deep 2 (List.map Gx.Used.enc r.2.2.2.2.1)), some (.deep 5 (List.map Gx.Correction.enc r.2.2.2.2.2.1)), some (.deep 4 (List.map Gx.Entry.enc r.2.2.2.2.2.2.1))] (.d (D.i r.2.2.2.2.2.2.2)) := by
 refine turn_of_walk Tryz.tok Tryz.mixed Tryz.func14 (by kernel_rfl) rfl fun W => ?_
 unfold l_markHouse at h
 refine avb ?_
 refine qtb ?_;refine turn_sel (O := fun (x1 : (List (Gx.Listed)) × Int) => [some (.deep 4 (List.map Gx.Listed.enc x1.1))]) (V := fun (x1 : (List (Gx.Listed)) × Int) => .d (D.i x1.2)) h trivial (fun x1 h1 => (l_markListedS_ok N v0.mList v1 h1)) (fun x1 hx1 h => ?_)
 refine avb ?_
 refine qtb ?_;refine turn_sel (O := fun (x2 : (List (Gx.Meaning)) × Int) => [some (.deep 2 (List.map Gx.Meaning.enc x2.1))]) (V := fun (x2 : (List (Gx.Meaning)) × Int) => .d (D.i x2.2)) h trivial (fun x2 h1 => (l_markMeaningS_ok N v0.mDict x1.2 h1)) (fun x2 hx2 h => ?_)
 refine avb ?_
 refine qtb ?_;refine turn_sel (O := fun (x3 : (List (Gx.Clue)) × Int) => [some (.deep 2 (List.map Gx.Clue.enc x3.1))]) (V := fun (x3 : (List (Gx.Clue)) × Int) => .d (D.i x3.2)) h trivial (fun x3 h1 => (l_markDraft_ok N v0.mDesk x2.2 h1)) (fun x3 hx3 h => ?_)
 refine avb ?_
 refine qtb ?_;refine turn_sel (O := fun (x4 : (List (Gx.Issue)) × Int) => [some (.deep 10 (List.map Gx.Issue.enc x4.1))]) (V := fun (x4 : (List (Gx.Issue)) × Int) => .d (D.i x4.2)) h trivial (fun x4 h1 => (l_markIssueS_ok N v0.mIssues x3.2 h1)) (fun x4 hx4 h => ?_)
 refine avb ?_
 refine qtb ?_;refine turn_sel (O := fun (x5 : (List (Gx.Used)) × Int) => [some (.deep 2 (List.map Gx.Used.enc x5.1))]) (V := fun (x5 : (List (Gx.Used)) × Int) => .d (D.i x5.2)) h trivial (fun x5 h1 => (l_markUsedS_ok N v0.mUses x4.2 h1)) (fun x5 hx5 h => ?_)
 refine avb ?_
 refine qtb ?_;refine turn_sel (O := fun (x6 : (List (Gx.Correction)) × Int) => [some (.deep 5 (List.map Gx.Correction.enc x6.1))]) (V := fun (x6 : (List (Gx.Correction)) × Int) => .d (D.i x6.2)) h trivial (fun x6 h1 => (l_markCorrectionS_ok N v0.mCorrections x5.2 h1)) (fun x6 hx6 h => ?_)
 refine avb ?_
 refine qtb ?_;refine turn_sel (O := fun (x7 : (List (Gx.Entry)) × Int) => [some (.deep 4 (List.map Gx.Entry.enc x7.1))]) (V := fun (x7 : (List (Gx.Entry)) × Int) => .d (D.i x7.2)) h trivial (fun x7 h1 => (l_markEntryS_ok N v0.mEntries x6.2 h1)) (fun x7 hx7 h => ?_)
 refine avb ?_
 obtain rfl := some_in h
 exact ⟨cons_eq (some_deep (by (exact eq_by))) (cons_eq (some_deep (by (exact eq_by))) (cons_eq (some_deep (by (exact eq_by))) (cons_eq (some_deep (by (exact eq_by))) (cons_eq (some_deep (by (exact eq_by))) (cons_eq (some_deep (by (exact eq_by))) (cons_eq (some_deep (by (exact eq_by))) (rfl))))))), by (exact eq_by)⟩

theorem l_heldListedS_ok (N : Nat) (v0 : List (Gx.Listed)) (v1 : Int) {r : Int} (h : l_heldListedS N v0 v1 = some r) : Pure Tryz.prog 54 [DV.one (D.sl 4 (List.map Gx.Listed.enc v0)), DV.one (D.i v1)] (DV.one (D.i r)) := by
 refine pure_of_walk Tryz.tok Tryz.mixed Tryz.func54 (by kernel_rfl) fun W => ?_
 unfold l_heldListedS at h
 refine ab0 ?_
 refine W.r_seq ?_
 refine ab0 ?_
 obtain ⟨zt6, h, gt6⟩ := cutb_some h
 refine W.r_cut (fun (t6 : Int) => ⟨[(1, .d (D.i t6))], [], 1000⟩) (fun t => .nx t = zt6) ?_ ?_
 ·refine avb ?_
  refine loop_lp (fun (p1 : Int × Int) => ⟨[(0, .d (D.sl 4 (List.map Gx.Listed.enc v0))), (1, .d (D.i p1.1)), (5, .d (D.i p1.2))], [], 1000⟩) h ?_ ?_
  ·exact weak_by
  intro np1 p1 yp1 h hfp1
  unfold l_heldListedS_L1 at h
  refine avb ?_
  refine lns (v0.length : Int) ?_
  refine avb ?_
  refine brb h ?_ ?_<;>intro _ h
  ·refine idx_sel h (fun x1 hx1 h => ?_)
   refine avb ?_
   refine plb ?_;refine call_sel (E := fun (x : (List UInt8)) => DV.one (D.s x)) h (fun x2 h1 => (l_markText_ok N p1.1 h1)) (fun x2 hx2 h => ?_)
   refine avb ?_
   refine brb h ?_ ?_<;>intro _ h
   ·have h := finr hfp1 h
    have h := cutr gt6 h
    cases h;exact eq_by
   ·refine idx_sel h (fun x3 hx3 h => ?_)
    refine avb ?_
    refine brb h ?_ ?_<;>intro _ h
    ·have h := finr hfp1 h
     have h := cutr gt6 h
     cases h;exact eq_by
    ·refine idx_sel h (fun x4 hx4 h => ?_)
     refine avb ?_
     refine brb h ?_ ?_<;>intro _ h
     ·have h := finr hfp1 h
      have h := cutr gt6 h
      cases h;exact eq_by
     ·refine idx_sel h (fun x5 hx5 h => ?_)
      refine avb ?_
      refine brb h ?_ ?_<;>intro _ h
      ·have h := finr hfp1 h
       have h := cutr gt6 h
       cases h;exact eq_by
      ·exact lbk hfp1 h
  ·have h := finr hfp1 h
   refine cut_at (p1.1) (some_in h) ?_
   exact weak_by
 rintro t6 rfl
 have h : _ = some _ := gt6
 refine avb ?_
 cases h;exact eq_by

theorem l_heldMeaningS_ok (N : Nat) (v0 : List (Gx.Meaning)) (v1 : Int) {r : Int} (h : l_heldMeaningS N v0 v1 = some r) : Pure Tryz.prog 55 [DV.one (D.sl 2 (List.map Gx.Meaning.enc v0)), DV.one (D.i v1)] (DV.one (D.i r)) := by
 refine pure_of_walk Tryz.tok Tryz.mixed Tryz.func55 (by kernel_rfl) fun W => ?_
 unfold l_heldMeaningS at h
 refine ab0 ?_
 refine W.r_seq ?_
 refine ab0 ?_
 obtain ⟨zt4, h, gt4⟩ := cutb_some h
 refine W.r_cut (fun (t4 : Int) => ⟨[(1, .d (D.i t4))], [], 1000⟩) (fun t => .nx t = zt4) ?_ ?_
 ·refine avb ?_
  refine loop_lp (fun (p1 : Int × Int) => ⟨[(0, .d (D.sl 2 (List.map Gx.Meaning.enc v0))), (1, .d (D.i p1.1)), (5, .d (D.i p1.2))], [], 1000⟩) h ?_ ?_
  ·exact weak_by
  intro np1 p1 yp1 h hfp1
  unfold l_heldMeaningS_L1 at h
  refine avb ?_
  refine lns (v0.length : Int) ?_
  refine avb ?_
  refine brb h ?_ ?_<;>intro _ h
  ·refine idx_sel h (fun x1 hx1 h => ?_)
   refine avb ?_
   refine plb ?_;refine call_sel (E := fun (x : (List UInt8)) => DV.one (D.s x)) h (fun x2 h1 => (l_markText_ok N p1.1 h1)) (fun x2 hx2 h => ?_)
   refine avb ?_
   refine brb h ?_ ?_<;>intro _ h
   ·have h := finr hfp1 h
    have h := cutr gt4 h
    cases h;exact eq_by
   ·refine idx_sel h (fun x3 hx3 h => ?_)
    refine avb ?_
    refine brb h ?_ ?_<;>intro _ h
    ·have h := finr hfp1 h
     have h := cutr gt4 h
     cases h;exact eq_by
    ·exact lbk hfp1 h
  ·have h := finr hfp1 h
   refine cut_at (p1.1) (some_in h) ?_
   exact weak_by
 rintro t4 rfl
 have h : _ = some _ := gt4
 refine avb ?_
 cases h;exact eq_by

theorem l_heldStepS_ok (N : Nat) (v0 : List (Gx.Step)) (v1 : Int) {r : Int} (h : l_heldStepS N v0 v1 = some r) : Pure Tryz.prog 110 [DV.one (D.sl 4 (List.map Gx.Step.enc v0)), DV.one (D.i v1)] (DV.one (D.i r)) := by
 refine pure_of_walk Tryz.tok Tryz.mixed Tryz.func110 (by kernel_rfl) fun W => ?_
 unfold l_heldStepS at h
 refine ab0 ?_
 refine W.r_seq ?_
 refine ab0 ?_
 obtain ⟨zt6, h, gt6⟩ := cutb_some h
 refine W.r_cut (fun (t6 : Int) => ⟨[(1, .d (D.i t6))], [], 1000⟩) (fun t => .nx t = zt6) ?_ ?_
 ·refine avb ?_
  refine loop_lp (fun (p1 : Int × Int) => ⟨[(0, .d (D.sl 4 (List.map Gx.Step.enc v0))), (1, .d (D.i p1.1)), (5, .d (D.i p1.2))], [], 1000⟩) h ?_ ?_
  ·exact weak_by
  intro np1 p1 yp1 h hfp1
  unfold l_heldStepS_L1 at h
  refine avb ?_
  refine lns (v0.length : Int) ?_
  refine avb ?_
  refine brb h ?_ ?_<;>intro _ h
  ·refine idx_sel h (fun x1 hx1 h => ?_)
   refine avb ?_
   refine brb h ?_ ?_<;>intro _ h
   ·have h := finr hfp1 h
    have h := cutr gt6 h
    cases h;exact eq_by
   ·refine idx_sel h (fun x2 hx2 h => ?_)
    refine avb ?_
    refine plb ?_;refine call_sel (E := fun (x : (List UInt8)) => DV.one (D.s x)) h (fun x3 h1 => (l_markText_ok N (w64 (p1.1 + 1)) h1)) (fun x3 hx3 h => ?_)
    refine avb ?_
    refine brb h ?_ ?_<;>intro _ h
    ·have h := finr hfp1 h
     have h := cutr gt6 h
     cases h;exact eq_by
    ·refine idx_sel h (fun x4 hx4 h => ?_)
     refine avb ?_
     refine brb h ?_ ?_<;>intro _ h
     ·have h := finr hfp1 h
      have h := cutr gt6 h
      cases h;exact eq_by
     ·refine idx_sel h (fun x5 hx5 h => ?_)
      refine avb ?_
      refine brb h ?_ ?_<;>intro _ h
      ·have h := finr hfp1 h
       have h := cutr gt6 h
       cases h;exact eq_by
      ·exact lbk hfp1 h
  ·have h := finr hfp1 h
   refine cut_at (p1.1) (some_in h) ?_
   exact weak_by
 rintro t6 rfl
 have h : _ = some _ := gt6
 refine avb ?_
 cases h;exact eq_by

theorem l_heldClueS_ok (N : Nat) (v0 : List (Gx.Clue)) (v1 : Int) {r : Int} (h : l_heldClueS N v0 v1 = some r) : Pure Tryz.prog 108 [DV.one (D.sl 2 (List.map Gx.Clue.enc v0)), DV.one (D.i v1)] (DV.one (D.i r)) := by
 refine pure_of_walk Tryz.tok Tryz.mixed Tryz.func108 (by kernel_rfl) fun W => ?_
 unfold l_heldClueS at h
 refine ab0 ?_
 refine W.r_seq ?_
 refine ab0 ?_
 obtain ⟨zt4, h, gt4⟩ := cutb_some h
 refine W.r_cut (fun (t4 : Int) => ⟨[(1, .d (D.i t4))], [], 1000⟩) (fun t => .nx t = zt4) ?_ ?_
 ·refine avb ?_
  refine loop_lp (fun (p1 : Int × Int) => ⟨[(0, .d (D.sl 2 (List.map Gx.Clue.enc v0))), (1, .d (D.i p1.1)), (5, .d (D.i p1.2))], [], 1000⟩) h ?_ ?_
  ·exact weak_by
  intro np1 p1 yp1 h hfp1
  unfold l_heldClueS_L1 at h
  refine avb ?_
  refine lns (v0.length : Int) ?_
  refine avb ?_
  refine brb h ?_ ?_<;>intro _ h
  ·refine idx_sel h (fun x1 hx1 h => ?_)
   refine avb ?_
   refine brb h ?_ ?_<;>intro _ h
   ·have h := finr hfp1 h
    have h := cutr gt4 h
    cases h;exact eq_by
   ·refine idx_sel h (fun x2 hx2 h => ?_)
    refine avb ?_
    refine plb ?_;refine call_sel (E := fun (x : Int) => DV.one (D.i x)) h (fun x3 h1 => (l_heldStepS_ok N x2.mPlay (w64 (p1.1 + 1)) h1)) (fun x3 hx3 h => ?_)
    refine avb ?_
    refine brb h ?_ ?_<;>intro _ h
    ·have h := finr hfp1 h
     have h := cutr gt4 h
     cases h;exact eq_by
    ·exact lbk hfp1 h
  ·have h := finr hfp1 h
   refine cut_at (p1.1) (some_in h) ?_
   exact weak_by
 rintro t4 rfl
 have h : _ = some _ := gt4
 refine avb ?_
 cases h;exact eq_by

theorem l_heldDraft_ok (N : Nat) (v0 : Gx.Draft) (v1 : Int) {r : Int} (h : l_heldDraft N v0 v1 = some r) : Pure Tryz.prog 56 [DV.agg (Gx.Draft.enc v0), DV.one (D.i v1)] (DV.one (D.i r)) := by
 refine pure_of_walk Tryz.tok Tryz.mixed Tryz.func56 (by kernel_rfl) fun W => ?_
 unfold l_heldDraft at h
 refine avb ?_
 refine plb ?_;refine call_sel (E := fun (x : Int) => DV.one (D.i x)) h (fun x1 h1 => (l_heldClueS_ok N v0.mClues v1 h1)) (fun x1 hx1 h => ?_)
 refine avb ?_
 refine brb h ?_ ?_<;>intro _ h
 ·cases h;exact eq_by
 ·cases h;exact eq_by

theorem l_heldIntS_ok (N : Nat) (v0 : List (Int)) (v1 : Int) {r : Int} (h : l_heldIntS N v0 v1 = some r) : Pure Tryz.prog 109 [DV.one (D.sl 1 (List.map Gx.encI v0)), DV.one (D.i v1)] (DV.one (D.i r)) := by
 refine pure_of_walk Tryz.tok Tryz.mixed Tryz.func109 (by kernel_rfl) fun W => ?_
 unfold l_heldIntS at h
 refine ab0 ?_
 refine W.r_seq ?_
 refine ab0 ?_
 obtain ⟨zt2, h, gt2⟩ := cutb_some h
 refine W.r_cut (fun (t2 : Int) => ⟨[(1, .d (D.i t2))], [], 1000⟩) (fun t => .nx t = zt2) ?_ ?_
 ·refine avb ?_
  refine loop_lp (fun (p1 : Int × Int) => ⟨[(0, .d (D.sl 1 (List.map Gx.encI v0))), (1, .d (D.i p1.1)), (5, .d (D.i p1.2))], [], 1000⟩) h ?_ ?_
  ·exact weak_by
  intro np1 p1 yp1 h hfp1
  unfold l_heldIntS_L1 at h
  refine avb ?_
  refine lns (v0.length : Int) ?_
  refine avb ?_
  refine brb h ?_ ?_<;>intro _ h
  ·refine idx_sel h (fun x1 hx1 h => ?_)
   refine avb ?_
   refine brb h ?_ ?_<;>intro _ h
   ·have h := finr hfp1 h
    have h := cutr gt2 h
    cases h;exact eq_by
   ·exact lbk hfp1 h
  ·have h := finr hfp1 h
   refine cut_at (p1.1) (some_in h) ?_
   exact weak_by
 rintro t2 rfl
 have h : _ = some _ := gt2
 refine avb ?_
 cases h;exact eq_by

theorem l_heldIssueS_ok (N : Nat) (v0 : List (Gx.Issue)) (v1 : Int) {r : Int} (h : l_heldIssueS N v0 v1 = some r) : Pure Tryz.prog 57 [DV.one (D.sl 10 (List.map Gx.Issue.enc v0)), DV.one (D.i v1)] (DV.one (D.i r)) := by
 refine pure_of_walk Tryz.tok Tryz.mixed Tryz.func57 (by kernel_rfl) fun W => ?_
 unfold l_heldIssueS at h
 refine ab0 ?_
 refine W.r_seq ?_
 refine ab0 ?_
 obtain ⟨zt15, h, gt15⟩ := cutb_some h
 refine W.r_cut (fun (t15 : Int) => ⟨[(1, .d (D.i t15))], [], 1000⟩) (fun t => .nx t = zt15) ?_ ?_
 ·refine avb ?_
  refine loop_lp (fun (p1 : Int × Int) => ⟨[(0, .d (D.sl 10 (List.map Gx.Issue.enc v0))), (1, .d (D.i p1.1)), (5, .d (D.i p1.2))], [], 1000⟩) h ?_ ?_
  ·exact weak_by
  intro np1 p1 yp1 h hfp1
  unfold l_heldIssueS_L1 at h
  refine avb ?_
  refine lns (v0.length : Int) ?_
  refine avb ?_
  refine brb h ?_ ?_<;>intro _ h
  ·refine idx_sel h (fun x1 hx1 h => ?_)
   refine avb ?_
   refine brb h ?_ ?_<;>intro _ h
   ·have h := finr hfp1 h
    have h := cutr gt15 h
    cases h;exact eq_by
   ·refine idx_sel h (fun x2 hx2 h => ?_)
    refine avb ?_
    refine brb h ?_ ?_<;>intro _ h
    ·have h := finr hfp1 h
     have h := cutr gt15 h
     cases h;exact eq_by
    ·refine idx_sel h (fun x3 hx3 h => ?_)
     refine avb ?_
     refine brb h ?_ ?_<;>intro _ h
     ·have h := finr hfp1 h
      have h := cutr gt15 h
      cases h;exact eq_by
     ·refine idx_sel h (fun x4 hx4 h => ?_)
      refine avb ?_
      refine plb ?_;refine call_sel (E := fun (x : (List UInt8)) => DV.one (D.s x)) h (fun x5 h1 => (l_markText_ok N (w64 ((w64 ((w64 (p1.1 + 1)) + 1)) + 1)) h1)) (fun x5 hx5 h => ?_)
      refine avb ?_
      refine brb h ?_ ?_<;>intro _ h
      ·have h := finr hfp1 h
       have h := cutr gt15 h
       cases h;exact eq_by
      ·refine idx_sel h (fun x6 hx6 h => ?_)
       refine avb ?_
       refine plb ?_;refine call_sel (E := fun (x : Int) => DV.one (D.i x)) h (fun x7 h1 => (l_heldClueS_ok N x6.mPuzzle.mClues (w64 ((w64 ((w64 ((w64 (p1.1 + 1)) + 1)) + 1)) + 1)) h1)) (fun x7 hx7 h => ?_)
       refine avb ?_
       refine brb h ?_ ?_<;>intro _ h
       ·have h := finr hfp1 h
        have h := cutr gt15 h
        cases h;exact eq_by
       ·refine idx_sel h (fun x8 hx8 h => ?_)
        refine avb ?_
        refine plb ?_;refine call_sel (E := fun (x : Int) => DV.one (D.i x)) h (fun x9 h1 => (l_heldIntS_ok N x8.mPuzzle.mSeals x7 h1)) (fun x9 hx9 h => ?_)
        refine avb ?_
        refine brb h ?_ ?_<;>intro _ h
        ·have h := finr hfp1 h
         have h := cutr gt15 h
         cases h;exact eq_by
        ·refine idx_sel h (fun x10 hx10 h => ?_)
         refine avb ?_
         refine brb h ?_ ?_<;>intro _ h
         ·have h := finr hfp1 h
          have h := cutr gt15 h
          cases h;exact eq_by
         ·refine idx_sel h (fun x11 hx11 h => ?_)
          refine avb ?_
          refine plb ?_;refine call_sel (E := fun (x : (List UInt8)) => DV.one (D.s x)) h (fun x12 h1 => (l_markText_ok N (w64 (x9 + 1)) h1)) (fun x12 hx12 h => ?_)
          refine avb ?_
          refine brb h ?_ ?_<;>intro _ h
          ·have h := finr hfp1 h
           have h := cutr gt15 h
           cases h;exact eq_by
          ·refine idx_sel h (fun x13 hx13 h => ?_)
           refine avb ?_
           refine brb h ?_ ?_<;>intro _ h
           ·have h := finr hfp1 h
            have h := cutr gt15 h
            cases h;exact eq_by
           ·refine idx_sel h (fun x14 hx14 h => ?_)
            refine avb ?_
            refine brb h ?_ ?_<;>intro _ h
            ·have h := finr hfp1 h
             have h := cutr gt15 h
             cases h;exact eq_by
            ·exact lbk hfp1 h
  ·have h := finr hfp1 h
   refine cut_at (p1.1) (some_in h) ?_
   exact weak_by
 rintro t15 rfl
 have h : _ = some _ := gt15
 refine avb ?_
 cases h;exact eq_by

theorem l_heldUsedS_ok (N : Nat) (v0 : List (Gx.Used)) (v1 : Int) {r : Int} (h : l_heldUsedS N v0 v1 = some r) : Pure Tryz.prog 58 [DV.one (D.sl 2 (List.map Gx.Used.enc v0)), DV.one (D.i v1)] (DV.one (D.i r)) := by
 refine pure_of_walk Tryz.tok Tryz.mixed Tryz.func58 (by kernel_rfl) fun W => ?_
 unfold l_heldUsedS at h
 refine ab0 ?_
 refine W.r_seq ?_
 refine ab0 ?_
 obtain ⟨zt4, h, gt4⟩ := cutb_some h
 refine W.r_cut (fun (t4 : Int) => ⟨[(1, .d (D.i t4))], [], 1000⟩) (fun t => .nx t = zt4) ?_ ?_
 ·refine avb ?_
  refine loop_lp (fun (p1 : Int × Int) => ⟨[(0, .d (D.sl 2 (List.map Gx.Used.enc v0))), (1, .d (D.i p1.1)), (5, .d (D.i p1.2))], [], 1000⟩) h ?_ ?_
  ·exact weak_by
  intro np1 p1 yp1 h hfp1
  unfold l_heldUsedS_L1 at h
  refine avb ?_
  refine lns (v0.length : Int) ?_
  refine avb ?_
  refine brb h ?_ ?_<;>intro _ h
  ·refine idx_sel h (fun x1 hx1 h => ?_)
   refine avb ?_
   refine plb ?_;refine call_sel (E := fun (x : (List UInt8)) => DV.one (D.s x)) h (fun x2 h1 => (l_markText_ok N p1.1 h1)) (fun x2 hx2 h => ?_)
   refine avb ?_
   refine brb h ?_ ?_<;>intro _ h
   ·have h := finr hfp1 h
    have h := cutr gt4 h
    cases h;exact eq_by
   ·refine idx_sel h (fun x3 hx3 h => ?_)
    refine avb ?_
    refine brb h ?_ ?_<;>intro _ h
    ·have h := finr hfp1 h
     have h := cutr gt4 h
     cases h;exact eq_by
    ·exact lbk hfp1 h
  ·have h := finr hfp1 h
   refine cut_at (p1.1) (some_in h) ?_
   exact weak_by
 rintro t4 rfl
 have h : _ = some _ := gt4
 refine avb ?_
 cases h;exact eq_by

end Lw
end Go.Proofs
