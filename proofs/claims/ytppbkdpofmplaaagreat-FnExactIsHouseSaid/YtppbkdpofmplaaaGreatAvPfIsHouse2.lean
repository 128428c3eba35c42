/- PRINTED BY gen.py (mine): their contracts. -/
import Derived.Test.YtppbkdpofmplaaaGreatAvPfIsHouse1
namespace Go.Proofs
open Go Go.Av
set_option maxRecDepth 100000
set_option maxHeartbeats 4000000
set_option linter.unusedVariables false
set_option linter.unusedSimpArgs false
namespace Lw
theorem i_IsConnected_ok (N : Nat) (v0 : Gx.Grid) {r : Bool} (h : i_IsConnected N v0 = some r) : Pure Tryz.prog 175 [DV.agg (Gx.Grid.enc v0)] (DV.one (D.b r)) := by
 refine pure_of_walk Tryz.tok Tryz.mixed Tryz.func175 (by kernel_rfl) fun W => ?_
 unfold i_IsConnected at h
 refine avb ?_
 refine plb ?_;refine call_sel (E := fun (x : Int) => DV.one (D.i x)) h (fun x1 h1 => (i_PartsOf_ok N v0 h1)) (fun x1 hx1 h => ?_)
 refine avb ?_
 cases h;exact eq_by

theorem i_run_ok (N : Nat) (v0 : Gx.Grid) (v1 : Int) (v2 : Bool) {r : Int} (h : i_run N v0 v1 v2 = some r) : Pure Tryz.prog 178 [DV.agg (Gx.Grid.enc v0), DV.one (D.i v1), DV.one (D.b v2)] (DV.one (D.i r)) := by
 refine pure_of_walk Tryz.tok Tryz.mixed Tryz.func178 (by kernel_rfl) fun W => ?_
 unfold i_run at h
 refine avb ?_
 refine chk_sel h (fun q => q) (fun h => ?_)
 refine ab0 ?_
 obtain ⟨zt1, h, gt1⟩ := bnd_some h
 refine W.r_cut (fun (t1 : Int × Int × Int) => ⟨[(1, .d (D.i v1)), (3, .ptr 1 0 0), (7, .d (D.i t1.1)), (8, .d (D.i t1.2.1)), (9, .d (D.i t1.2.2))], [(1, some (.box [.d (D.i v0.mRows), .d (D.i v0.mCols), .d (D.s v0.mCells)]))], 1000⟩) (fun t => t = zt1) ?_ ?_
 ·refine avb ?_
  refine brb h ?_ ?_<;>intro _ h
  ·refine chk_sel h (fun q => q) (fun h => ?_)
   refine avb ?_
   refine cut_at ((v0.mCols, w64 (Int.tdiv v1 v0.mCols), v0.mRows)) (some_in h) ?_
   exact weak_by
  ·refine cut_at ((1, Int.tmod v1 v0.mCols, v0.mCols)) (some_in h) ?_
   exact weak_by
 rintro t1 rfl
 have h : _ = some _ := gt1
 refine ab0 ?_
 obtain ⟨zt2, h, gt2⟩ := cutb_some h
 refine W.r_cut (fun (t2 : Unit) => ⟨[(1, .d (D.i v1)), (3, .ptr 1 0 0), (7, .d (D.i t1.1)), (8, .d (D.i t1.2.1)), (9, .d (D.i t1.2.2))], [(1, some (.box [.d (D.i v0.mRows), .d (D.i v0.mCols), .d (D.s v0.mCells)]))], 1000⟩) (fun t => .nx t = zt2) ?_ ?_
 ·refine avb ?_
  refine chk_sel h (fun q => q) (fun h => ?_)
  refine avb ?_
  refine brb h ?_ ?_<;>intro _ h
  ·have h := cutr gt2 h
   cases h;exact eq_by
  ·refine brb h ?_ ?_<;>intro _ h
   ·refine chk_sel h (fun q => q) (fun h => ?_)
    refine avb ?_
    refine brb h ?_ ?_<;>intro _ h
    ·have h := cutr gt2 h
     cases h;exact eq_by
    ·refine cut_at (()) (some_in h) ?_
     exact weak_by
   ·refine cut_at (()) (some_in h) ?_
    exact weak_by
 rintro t2 rfl
 have h : _ = some _ := gt2
 refine ab0 ?_
 refine W.r_seq ?_
 refine ab0 ?_
 obtain ⟨zt3, h, gt3⟩ := bnd_some h
 refine W.r_cut (fun (t3 : Int) => ⟨[(10, .d (D.i t3))], [], 1000⟩) (fun t => t = zt3) ?_ ?_
 ·refine avb ?_
  refine loop_lp (fun (p1 : Int) => ⟨[(1, .d (D.i v1)), (3, .ptr 1 0 0), (7, .d (D.i t1.1)), (8, .d (D.i t1.2.1)), (9, .d (D.i t1.2.2)), (10, .d (D.i p1))], [(1, some (.box [.d (D.i v0.mRows), .d (D.i v0.mCols), .d (D.s v0.mCells)]))], 1000⟩) h ?_ ?_
  ·exact weak_by
  intro np1 p1 yp1 h hfp1
  unfold i_run_L1 at h
  refine avb ?_
  refine brb h ?_ ?_<;>intro _ h
  ·refine chk_sel h (fun q => q) (fun h => ?_)
   refine avb ?_
   refine brb h ?_ ?_<;>intro _ h
   ·exact lbk hfp1 h
   ·have h := finr hfp1 h
    refine cut_at (p1) (some_in h) ?_
    exact weak_by
  ·have h := finr hfp1 h
   refine cut_at (p1) (some_in h) ?_
   exact weak_by
 rintro t3 rfl
 have h : _ = some _ := gt3
 refine avb ?_
 cases h;exact eq_by

theorem i_SlotsOf_ok (N : Nat) (v0 : Gx.Grid) {r : (List (Gx.Slot))} (h : i_SlotsOf N v0 = some r) : Pure Tryz.prog 126 [DV.agg (Gx.Grid.enc v0)] (DV.one (D.sl 4 (List.map Gx.Slot.enc r))) := by
 refine pure_of_walk Tryz.tok Tryz.mixed Tryz.func126 (by kernel_rfl) fun W => ?_
 unfold i_SlotsOf at h
 refine avb ?_
 refine plb ?_;refine call_sel (E := fun (x : Bool) => DV.one (D.b x)) h (fun x1 h1 => (i_IsGrid_ok N v0 h1)) (fun x1 hx1 h => ?_)
 refine avb ?_
 refine br_sel h (fun _ h => ?_) (fun _ h => ?_)
 ·refine avb ?_
  cases h;exact eq_by
 ·refine ab0 ?_
  refine W.r_seq ?_
  refine ab0 ?_
  refine W.r_seq ?_
  refine ab0 ?_
  obtain ⟨zt6, h, gt6⟩ := bnd_some h
  refine W.r_cut (fun (t6 : (List (Gx.Slot))) => ⟨[(3, .sl 1)], [(1, some (.arr 4 (List.map Gx.Slot.enc t6) true))], 1000⟩) (fun t => t = zt6) ?_ ?_
  ·refine avb ?_
   refine lns (v0.mCells.length : Int) ?_
   refine avb ?_
   refine loop_lp (fun (p1 : (List (Gx.Slot)) × Int × Int) => ⟨[(1, .ptr 1 0 0), (3, .sl 2), (4, .d (D.i p1.2.1)), (13, .d (D.i (v0.mCells.length : Int))), (14, .d (D.i p1.2.2))], [(1, some (.box [.d (D.i v0.mRows), .d (D.i v0.mCols), .d (D.s v0.mCells)])), (2, some (.arr 4 (List.map Gx.Slot.enc p1.1) true))], 1000⟩) h ?_ ?_
   ·exact weak_by
   intro np1 p1 yp1 h hfp1
   unfold i_SlotsOf_L1 at h
   refine avb ?_
   refine brb h ?_ ?_<;>intro _ h
   ·refine plb ?_;refine call_sel (E := fun (x : Int) => DV.one (D.i x)) h (fun x2 h1 => (i_run_ok N v0 p1.2.2 false h1)) (fun x2 hx2 h => ?_)
    refine avb ?_
    refine plb ?_;refine call_sel (E := fun (x : Int) => DV.one (D.i x)) h (fun x3 h1 => (i_run_ok N v0 p1.2.2 true h1)) (fun x3 hx3 h => ?_)
    refine ab0 ?_
    obtain ⟨zt4, h, gt4⟩ := bnd_some h
    refine W.r_cut (fun (t4 : Int) => ⟨[(1, .ptr 1 0 0), (3, .sl 2), (4, .d (D.i t4)), (5, .d (D.i p1.2.2)), (6, .d (D.i x2)), (7, .d (D.i x3)), (13, .d (D.i (v0.mCells.length : Int))), (14, .d (D.i p1.2.2))], [(1, some (.box [.d (D.i v0.mRows), .d (D.i v0.mCols), .d (D.s v0.mCells)])), (2, some (.arr 4 (List.map Gx.Slot.enc p1.1) true))], 1000⟩) (fun t => t = zt4) ?_ ?_
    ·refine avb ?_
     refine brb h ?_ ?_<;>intro _ h
     ·refine cut_at (w64 (p1.2.1 + 1)) (some_in h) ?_
      exact weak_by
     ·refine brb h ?_ ?_<;>intro _ h
      ·refine cut_at (w64 (p1.2.1 + 1)) (some_in h) ?_
       exact weak_by
      ·refine cut_at (p1.2.1) (some_in h) ?_
       exact weak_by
    rintro t4 rfl
    have h : _ = some _ := gt4
    refine ab0 ?_
    obtain ⟨zt5, h, gt5⟩ := bnd_some h
    refine W.r_cut (fun (t5 : (List (Gx.Slot))) => ⟨[(1, .ptr 1 0 0), (3, .sl 2), (4, .d (D.i t4)), (5, .d (D.i p1.2.2)), (7, .d (D.i x3)), (13, .d (D.i (v0.mCells.length : Int))), (14, .d (D.i p1.2.2))], [(1, some (.box [.d (D.i v0.mRows), .d (D.i v0.mCols), .d (D.s v0.mCells)])), (2, some (.arr 4 (List.map Gx.Slot.enc t5) true))], 1000⟩) (fun t => t = zt5) ?_ ?_
    ·refine avb ?_
     refine brb h ?_ ?_<;>intro _ h
     ·refine app_sel h (app_ok (by (first|rfl|simp [sub])) (by (first|rfl|simp [sub])) (by decide)) (by (intro h; cases h)) (fun h => ?_)
      refine avb ?_
      refine cut_at (p1.1 ++ ([(⟨t4, false, p1.2.2, x2⟩ : Gx.Slot)])) (some_in h) ?_
      exact weak_by
     ·refine cut_at (p1.1) (some_in h) ?_
      exact weak_by
    rintro t5 rfl
    have h : _ = some _ := gt5
    refine avb ?_
    refine brb h ?_ ?_<;>intro _ h
    ·refine app_sel h (app_ok (by (first|rfl|simp [sub])) (by (first|rfl|simp [sub])) (by decide)) (by (intro h; cases h)) (fun h => ?_)
     refine avb ?_
     exact lbk hfp1 h
    ·exact lbk hfp1 h
   ·have h := finr hfp1 h
    refine cut_at (p1.1) (some_in h) ?_
    exact weak_by
  rintro t6 rfl
  have h : _ = some _ := gt6
  refine avb ?_
  cases h;exact eq_by

theorem i_cells_ok (N : Nat) (v0 : Gx.Grid) (v1 : Gx.Slot) {r : (List (Int))} (h : i_cells N v0 v1 = some r) : Pure Tryz.prog 218 [DV.agg (Gx.Grid.enc v0), DV.agg (Gx.Slot.enc v1)] (DV.one (D.sl 1 (List.map Gx.encI r))) := by
 refine pure_of_walk Tryz.tok Tryz.mixed Tryz.func218 (by kernel_rfl) fun W => ?_
 unfold i_cells at h
 refine ab0 ?_
 refine W.r_seq ?_
 refine ab0 ?_
 refine W.r_seq ?_
 refine ab0 ?_
 obtain ⟨zt1, h, gt1⟩ := bnd_some h
 refine W.r_cut (fun (t1 : Int) => ⟨[(3, .ptr 1 0 0), (5, .d (D.i t1))], [(1, some (.box [.d (D.i v1.mNumber), .d (D.b v1.mDown), .d (D.i v1.mCell), .d (D.i v1.mLength)]))], 1000⟩) (fun t => t = zt1) ?_ ?_
 ·refine avb ?_
  refine brb h ?_ ?_<;>intro _ h
  ·refine cut_at (v0.mCols) (some_in h) ?_
   exact weak_by
  ·refine cut_at (1) (some_in h) ?_
   exact weak_by
 rintro t1 rfl
 have h : _ = some _ := gt1
 refine ab0 ?_
 refine W.r_seq ?_
 refine ab0 ?_
 obtain ⟨zt2, h, gt2⟩ := bnd_some h
 refine W.r_cut (fun (t2 : (List (Int))) => ⟨[(6, .sl 1)], [(1, some (.arr 1 (List.map Gx.encI t2) true))], 1000⟩) (fun t => t = zt2) ?_ ?_
 ·refine avb ?_
  refine loop_lp (fun (p1 : (List (Int)) × Int) => ⟨[(3, .ptr 1 0 0), (5, .d (D.i t1)), (6, .sl 2), (13, .d (D.i v1.mLength)), (14, .d (D.i p1.2))], [(1, some (.box [.d (D.i v1.mNumber), .d (D.b v1.mDown), .d (D.i v1.mCell), .d (D.i v1.mLength)])), (2, some (.arr 1 (List.map Gx.encI p1.1) true))], 1000⟩) h ?_ ?_
  ·exact weak_by
  intro np1 p1 yp1 h hfp1
  unfold i_cells_L1 at h
  refine avb ?_
  refine brb h ?_ ?_<;>intro _ h
  ·refine app_sel h (app_ok (by (first|rfl|simp [sub])) (by (first|rfl|simp [sub])) (by decide)) (by (intro h; cases h)) (fun h => ?_)
   refine avb ?_
   exact lbk hfp1 h
  ·have h := finr hfp1 h
   refine cut_at (p1.1) (some_in h) ?_
   exact weak_by
 rintro t2 rfl
 have h : _ = some _ := gt2
 refine avb ?_
 cases h;exact eq_by

theorem i_layout_ok (N : Nat) (v0 : Gx.Grid) {r : (List (List (Int)))} (h : i_layout N v0 = some r) : Pure Tryz.prog 194 [DV.agg (Gx.Grid.enc v0)] (DV.one (D.sl 1 (List.map (Gx.encL 1 Gx.encI) r))) := by
 refine pure_of_walk Tryz.tok Tryz.mixed Tryz.func194 (by kernel_rfl) fun W => ?_
 unfold i_layout at h
 refine ab0 ?_
 refine W.r_seq ?_
 refine ab0 ?_
 refine W.r_seq ?_
 refine ab0 ?_
 obtain ⟨zt4, h, gt4⟩ := bnd_some h
 refine W.r_cut (fun (t4 : (List (List (Int)))) => ⟨[(3, .sl 1)], [(1, some (.arr 1 (List.map (Gx.encL 1 Gx.encI) t4) true))], 1000⟩) (fun t => t = zt4) ?_ ?_
 ·refine avb ?_
  refine plb ?_;refine call_sel (E := fun (x : (List (Gx.Slot))) => DV.one (D.sl 4 (List.map Gx.Slot.enc x))) h (fun x1 h1 => (i_SlotsOf_ok N v0 h1)) (fun x1 hx1 h => ?_)
  refine avb ?_
  refine lns (x1.length : Int) ?_
  refine avb ?_
  refine loop_lp (fun (p1 : (List (List (Int))) × Int) => ⟨[(1, .ptr 1 0 0), (3, .sl 2), (7, .sl 3), (8, .d (D.i (x1.length : Int))), (9, .d (D.i p1.2))], [(1, some (.box [.d (D.i v0.mRows), .d (D.i v0.mCols), .d (D.s v0.mCells)])), (2, some (.arr 1 (List.map (Gx.encL 1 Gx.encI) p1.1) true)), (3, some (.arr 4 (List.map Gx.Slot.enc x1) true))], 1000⟩) h ?_ ?_
  ·exact weak_by
  intro np1 p1 yp1 h hfp1
  unfold i_layout_L1 at h
  refine avb ?_
  refine brb h ?_ ?_<;>intro _ h
  ·refine idxp_sel h (fun x2 hx2 h => ?_)
   refine avb ?_
   refine ldp_sel hx2 ?_
   refine avb ?_
   refine plb ?_;refine call_sel (E := fun (x : (List (Int))) => DV.one (D.sl 1 (List.map Gx.encI x))) h (fun x3 h1 => (i_cells_ok N v0 x2 h1)) (fun x3 hx3 h => ?_)
   refine avb ?_
   refine app_sel h (app_ok (by (first|rfl|simp [sub])) (by (first|rfl|simp [sub])) (by decide)) (by (intro h; cases h)) (fun h => ?_)
   refine avb ?_
   exact lbk hfp1 h
  ·have h := finr hfp1 h
   refine cut_at (p1.1) (some_in h) ?_
   exact weak_by
 rintro t4 rfl
 have h : _ = some _ := gt4
 refine avb ?_
 cases h;exact eq_by

theorem g_slices_Index_Sint_int_ok (N : Nat) (v0 : List (Int)) (v1 : Int) {r : Int} (h : g_slices_Index_Sint_int N v0 v1 = some r) : Pure Tryz.prog 233 [DV.one (D.sl 1 (List.map Gx.encI v0)), DV.one (D.i v1)] (DV.one (D.i r)) := by
 refine pure_of_walk Tryz.tok Tryz.mixed Tryz.func233 (by kernel_rfl) fun W => ?_
 unfold g_slices_Index_Sint_int at h
 refine ab0 ?_
 refine W.r_seq ?_
 refine ab0 ?_
 obtain ⟨zt2, h, gt2⟩ := cutb_some h
 refine W.r_cut (fun (t2 : Unit) => ⟨[], [], 1000⟩) (fun t => .nx t = zt2) ?_ ?_
 ·refine avb ?_
  refine lns (v0.length : Int) ?_
  refine avb ?_
  refine loop_lp (fun (p1 : Int) => ⟨[(0, .d (D.sl 1 (List.map Gx.encI v0))), (1, .d (D.i v1)), (7, .d (D.i (v0.length : Int))), (8, .d (D.i p1))], [], 1000⟩) h ?_ ?_
  ·exact weak_by
  intro np1 p1 yp1 h hfp1
  unfold g_slices_Index_Sint_int_L1 at h
  refine avb ?_
  refine brb h ?_ ?_<;>intro _ h
  ·refine idx_sel h (fun x1 hx1 h => ?_)
   refine avb ?_
   refine brb h ?_ ?_<;>intro _ h
   ·have h := finr hfp1 h
    have h := cutr gt2 h
    cases h;exact eq_by
   ·exact lbk hfp1 h
  ·have h := finr hfp1 h
   refine cut_at (()) (some_in h) ?_
   exact weak_by
 rintro t2 rfl
 have h : _ = some _ := gt2
 refine avb ?_
 cases h;exact eq_by

theorem g_slices_Contains_Sint_int_ok (N : Nat) (v0 : List (Int)) (v1 : Int) {r : Bool} (h : g_slices_Contains_Sint_int N v0 v1 = some r) : Pure Tryz.prog 232 [DV.one (D.sl 1 (List.map Gx.encI v0)), DV.one (D.i v1)] (DV.one (D.b r)) := by
 refine pure_of_walk Tryz.tok Tryz.mixed Tryz.func232 (by kernel_rfl) fun W => ?_
 unfold g_slices_Contains_Sint_int at h
 refine avb ?_
 refine plb ?_;refine call_sel (E := fun (x : Int) => DV.one (D.i x)) h (fun x1 h1 => (g_slices_Index_Sint_int_ok N v0 v1 h1)) (fun x1 hx1 h => ?_)
 refine avb ?_
 cases h;exact eq_by

theorem i_SlotsAt_ok (N : Nat) (v0 : Gx.Grid) (v1 : Int) {r : (List (Int))} (h : i_SlotsAt N v0 v1 = some r) : Pure Tryz.prog 228 [DV.agg (Gx.Grid.enc v0), DV.one (D.i v1)] (DV.one (D.sl 1 (List.map Gx.encI r))) := by
 refine pure_of_walk Tryz.tok Tryz.mixed Tryz.func228 (by kernel_rfl) fun W => ?_
 unfold i_SlotsAt at h
 refine ab0 ?_
 refine W.r_seq ?_
 refine ab0 ?_
 refine W.r_seq ?_
 refine ab0 ?_
 obtain ⟨zt4, h, gt4⟩ := bnd_some h
 refine W.r_cut (fun (t4 : (List (Int))) => ⟨[(5, .sl 1)], [(1, some (.arr 1 (List.map Gx.encI t4) true))], 1000⟩) (fun t => t = zt4) ?_ ?_
 ·refine avb ?_
  refine plb ?_;refine call_sel (E := fun (x : (List (List (Int)))) => DV.one (D.sl 1 (List.map (Gx.encL 1 Gx.encI) x))) h (fun x1 h1 => (i_layout_ok N v0 h1)) (fun x1 hx1 h => ?_)
  refine avb ?_
  refine lns (x1.length : Int) ?_
  refine avb ?_
  refine loop_lp (fun (p1 : (List (Int)) × Int) => ⟨[(1, .d (D.i v1)), (5, .sl 1), (9, .sl 2), (10, .d (D.i (x1.length : Int))), (11, .d (D.i p1.2))], [(1, some (.arr 1 (List.map Gx.encI p1.1) true)), (2, some (.arr 1 (List.map (Gx.encL 1 Gx.encI) x1) true))], 1000⟩) h ?_ ?_
  ·exact weak_by
  intro np1 p1 yp1 h hfp1
  unfold i_SlotsAt_L1 at h
  refine avb ?_
  refine brb h ?_ ?_<;>intro _ h
  ·refine idxp_sel h (fun x2 hx2 h => ?_)
   refine avb ?_
   refine ldp_sel hx2 ?_
   refine avb ?_
   refine plb ?_;refine call_sel (E := fun (x : Bool) => DV.one (D.b x)) h (fun x3 h1 => (g_slices_Contains_Sint_int_ok N x2 v1 h1)) (fun x3 hx3 h => ?_)
   refine avb ?_
   refine brb h ?_ ?_<;>intro _ h
   ·refine app_sel h (app_ok (by (first|rfl|simp [sub])) (by (first|rfl|simp [sub])) (by decide)) (by (intro h; cases h)) (fun h => ?_)
    refine avb ?_
    exact lbk hfp1 h
   ·exact lbk hfp1 h
  ·have h := finr hfp1 h
   refine cut_at (p1.1) (some_in h) ?_
   exact weak_by
 rintro t4 rfl
 have h : _ = some _ := gt4
 refine avb ?_
 cases h;exact eq_by

theorem i_IsChecked_ok (N : Nat) (v0 : Gx.Grid) (v1 : Int) {r : Bool} (h : i_IsChecked N v0 v1 = some r) : Pure Tryz.prog 208 [DV.agg (Gx.Grid.enc v0), DV.one (D.i v1)] (DV.one (D.b r)) := by
 refine pure_of_walk Tryz.tok Tryz.mixed Tryz.func208 (by kernel_rfl) fun W => ?_
 unfold i_IsChecked at h
 refine avb ?_
 refine plb ?_;refine call_sel (E := fun (x : (List (Int))) => DV.one (D.sl 1 (List.map Gx.encI x))) h (fun x1 h1 => (i_SlotsAt_ok N v0 v1 h1)) (fun x1 hx1 h => ?_)
 refine avb ?_
 refine lns (x1.length : Int) ?_
 refine avb ?_
 cases h;exact eq_by

theorem i_UncheckedIn_ok (N : Nat) (v0 : Gx.Grid) (v1 : Int) {r : Int} (h : i_UncheckedIn N v0 v1 = some r) : Pure Tryz.prog 176 [DV.agg (Gx.Grid.enc v0), DV.one (D.i v1)] (DV.one (D.i r)) := by
 refine pure_of_walk Tryz.tok Tryz.mixed Tryz.func176 (by kernel_rfl) fun W => ?_
 unfold i_UncheckedIn at h
 refine avb ?_
 refine plb ?_;refine call_sel (E := fun (x : (List (List (Int)))) => DV.one (D.sl 1 (List.map (Gx.encL 1 Gx.encI) x))) h (fun x1 h1 => (i_layout_ok N v0 h1)) (fun x1 hx1 h => ?_)
 refine avb ?_
 refine lns (x1.length : Int) ?_
 refine avb ?_
 refine plb ?_;refine call_sel (E := fun (x : Bool) => DV.one (D.b x)) h (fun x2 h1 => (i_at_ok N v1 (x1.length : Int) h1)) (fun x2 hx2 h => ?_)
 refine avb ?_
 refine br_sel h (fun _ h => ?_) (fun _ h => ?_)
 ·refine avb ?_
  cases h;exact eq_by
 ·refine ab0 ?_
  refine W.r_seq ?_
  refine ab0 ?_
  obtain ⟨zt6, h, gt6⟩ := bnd_some h
  refine W.r_cut (fun (t6 : Int) => ⟨[(6, .d (D.i t6))], [], 1000⟩) (fun t => t = zt6) ?_ ?_
  ·refine avb ?_
   refine idxp_sel h (fun x3 hx3 h => ?_)
   refine avb ?_
   refine ldp_sel hx3 ?_
   refine avb ?_
   refine lns (x3.length : Int) ?_
   refine avb ?_
   refine loop_lp (fun (p1 : Int × Int) => ⟨[(2, .ptr 1 0 0), (6, .d (D.i p1.1)), (19, .d (D.sl 1 (List.map Gx.encI x3))), (20, .d (D.i (x3.length : Int))), (21, .d (D.i p1.2))], [(1, some (.box [.d (D.i v0.mRows), .d (D.i v0.mCols), .d (D.s v0.mCells)]))], 1000⟩) h ?_ ?_
   ·exact weak_by
   intro np1 p1 yp1 h hfp1
   unfold i_UncheckedIn_L1 at h
   refine avb ?_
   refine brb h ?_ ?_<;>intro _ h
   ·refine idx_sel h (fun x4 hx4 h => ?_)
    refine avb ?_
    refine plb ?_;refine call_sel (E := fun (x : Bool) => DV.one (D.b x)) h (fun x5 h1 => (i_IsChecked_ok N v0 x4 h1)) (fun x5 hx5 h => ?_)
    refine avb ?_
    refine brb h ?_ ?_<;>intro _ h
    ·exact lbk hfp1 h
    ·exact lbk hfp1 h
   ·have h := finr hfp1 h
    refine cut_at (p1.1) (some_in h) ?_
    exact weak_by
  rintro t6 rfl
  have h : _ = some _ := gt6
  refine avb ?_
  cases h;exact eq_by

theorem i_alone_ok (N : Nat) (v0 : Gx.Grid) (v1 : List UInt8) {r : Bool} (h : i_alone N v0 v1 = some r) : Pure Tryz.prog 177 [DV.agg (Gx.Grid.enc v0), DV.one (D.s v1)] (DV.one (D.b r)) := by
 refine pure_of_walk Tryz.tok Tryz.mixed Tryz.func177 (by kernel_rfl) fun W => ?_
 unfold i_alone at h
 refine ab0 ?_
 refine W.r_seq ?_
 refine ab0 ?_
 refine W.r_seq ?_
 refine ab0 ?_
 obtain ⟨zt5, h, gt5⟩ := bnd_some h
 refine W.r_cut (fun (t5 : (List (Int × Int))) => ⟨[(1, .d (D.s v1)), (2, .ptr 1 0 0), (5, .sl 2)], [(1, some (.box [.d (D.i v0.mRows), .d (D.i v0.mCols), .d (D.s v0.mCells)])), (2, some (.mp t5))], 1000⟩) (fun t => t = zt5) ?_ ?_
 ·refine avb ?_
  refine plb ?_;refine call_sel (E := fun (x : (List (List (Int)))) => DV.one (D.sl 1 (List.map (Gx.encL 1 Gx.encI) x))) h (fun x1 h1 => (i_layout_ok N v0 h1)) (fun x1 hx1 h => ?_)
  refine avb ?_
  refine lns (x1.length : Int) ?_
  refine avb ?_
  refine loop_lp (fun (p1 : (List (Int × Int)) × Int) => ⟨[(1, .d (D.s v1)), (2, .ptr 1 0 0), (5, .sl 2), (13, .sl 3), (14, .d (D.i (x1.length : Int))), (15, .d (D.i p1.2))], [(1, some (.box [.d (D.i v0.mRows), .d (D.i v0.mCols), .d (D.s v0.mCells)])), (2, some (.mp p1.1)), (3, some (.arr 1 (List.map (Gx.encL 1 Gx.encI) x1) true))], 1000⟩) h ?_ ?_
  ·exact weak_by
  intro np1 p1 yp1 h hfp1
  unfold i_alone_L1 at h
  refine avb ?_
  refine br_sel h (fun _ h => ?_) (fun _ h => ?_)
  ·refine ab0 ?_
   obtain ⟨zt4, h, gt4⟩ := bnd_some h
   refine W.r_cut (fun (t4 : (List (Int × Int))) => ⟨[(1, .d (D.s v1)), (2, .ptr 1 0 0), (5, .sl 2), (13, .sl 3), (14, .d (D.i (x1.length : Int))), (15, .d (D.i p1.2))], [(1, some (.box [.d (D.i v0.mRows), .d (D.i v0.mCols), .d (D.s v0.mCells)])), (2, some (.mp t4)), (3, some (.arr 1 (List.map (Gx.encL 1 Gx.encI) x1) true))], 1000⟩) (fun t => t = zt4) ?_ ?_
   ·refine avb ?_
    refine idxp_sel h (fun x2 hx2 h => ?_)
    refine avb ?_
    refine ldp_sel hx2 ?_
    refine avb ?_
    refine lns (x2.length : Int) ?_
    refine avb ?_
    refine loop_lp (fun (p2 : (List (Int × Int)) × Int) => ⟨[(1, .d (D.s v1)), (2, .ptr 1 0 0), (5, .sl 2), (13, .sl 3), (14, .d (D.i (x1.length : Int))), (15, .d (D.i p1.2)), (19, .d (D.sl 1 (List.map Gx.encI x2))), (20, .d (D.i (x2.length : Int))), (21, .d (D.i p2.2))], [(1, some (.box [.d (D.i v0.mRows), .d (D.i v0.mCols), .d (D.s v0.mCells)])), (2, some (.mp p2.1)), (3, some (.arr 1 (List.map (Gx.encL 1 Gx.encI) x1) true))], 1000⟩) h ?_ ?_
    ·exact weak_by
    intro np2 p2 yp2 h hfp2
    unfold i_alone_L2 at h
    refine avb ?_
    refine brb h ?_ ?_<;>intro _ h
    ·refine idx_sel h (fun x3 hx3 h => ?_)
     refine avb ?_
     exact lbk hfp2 h
    ·have h := finr hfp2 h
     refine cut_at (p2.1) (some_in h) ?_
     exact weak_by
   rintro t4 rfl
   have h : _ = some _ := gt4
   refine avb ?_
   exact lbk hfp1 h
  ·refine avb ?_
   have h := finr hfp1 h
   refine cut_at (p1.1) (some_in h) ?_
   exact weak_by
 rintro t5 rfl
 have h : _ = some _ := gt5
 refine ab0 ?_
 obtain ⟨zt7, h, gt7⟩ := cutb_some h
 refine W.r_cut (fun (t7 : Unit) => ⟨[], [], 1000⟩) (fun t => .nx t = zt7) ?_ ?_
 ·refine avb ?_
  refine lns (v0.mCells.length : Int) ?_
  refine avb ?_
  refine loop_lp (fun (p3 : Int) => ⟨[(1, .d (D.s v1)), (2, .ptr 1 0 0), (5, .sl 2), (31, .d (D.i (v0.mCells.length : Int))), (32, .d (D.i p3))], [(1, some (.box [.d (D.i v0.mRows), .d (D.i v0.mCols), .d (D.s v0.mCells)])), (2, some (.mp t5))], 1000⟩) h ?_ ?_
  ·exact weak_by
  intro np3 p3 yp3 h hfp3
  unfold i_alone_L3 at h
  refine avb ?_
  refine brb h ?_ ?_<;>intro _ h
  ·refine chk_sel h (fun q => q) (fun h => ?_)
   refine avb ?_
   refine brb h ?_ ?_<;>intro _ h
   ·refine brb h ?_ ?_<;>intro _ h
    ·refine chk_sel h (fun q => q) (fun h => ?_)
     refine avb ?_
     refine plb ?_;refine call_sel (E := fun (x : Bool) => DV.one (D.b x)) h (fun x6 h1 => (i_isLetter_ok N (byteI v1 p3) h1)) (fun x6 hx6 h => ?_)
     refine avb ?_
     refine brb h ?_ ?_<;>intro _ h
     ·have h := finr hfp3 h
      have h := cutr gt7 h
      cases h;exact eq_by
     ·exact lbk hfp3 h
    ·exact lbk hfp3 h
   ·exact lbk hfp3 h
  ·have h := finr hfp3 h
   refine cut_at (()) (some_in h) ?_
   exact weak_by
 rintro t7 rfl
 have h : _ = some _ := gt7
 refine avb ?_
 cases h;exact eq_by

theorem i_FormOf_ok (N : Nat) (v0 : Gx.Grid) {r : Int} (h : i_FormOf N v0 = some r) : Pure Tryz.prog 124 [DV.agg (Gx.Grid.enc v0)] (DV.one (D.i r)) := by
 refine pure_of_walk Tryz.tok Tryz.mixed Tryz.func124 (by kernel_rfl) fun W => ?_
 unfold i_FormOf at h
 refine avb ?_
 refine plb ?_;refine call_sel (E := fun (x : Bool) => DV.one (D.b x)) h (fun x1 h1 => (i_IsGrid_ok N v0 h1)) (fun x1 hx1 h => ?_)
 refine avb ?_
 refine brb h ?_ ?_<;>intro _ h
 ·cases h;exact eq_by
 ·refine plb ?_;refine call_sel (E := fun (x : Bool) => DV.one (D.b x)) h (fun x2 h1 => (i_IsSymmetric_ok N v0 h1)) (fun x2 hx2 h => ?_)
  refine avb ?_
  refine brb h ?_ ?_<;>intro _ h
  ·cases h;exact eq_by
  ·refine plb ?_;refine call_sel (E := fun (x : Bool) => DV.one (D.b x)) h (fun x3 h1 => (i_IsConnected_ok N v0 h1)) (fun x3 hx3 h => ?_)
   refine avb ?_
   refine brb h ?_ ?_<;>intro _ h
   ·cases h;exact eq_by
   ·refine plb ?_;refine call_sel (E := fun (x : (List (Gx.Slot))) => DV.one (D.sl 4 (List.map Gx.Slot.enc x))) h (fun x4 h1 => (i_SlotsOf_ok N v0 h1)) (fun x4 hx4 h => ?_)
    refine ab0 ?_
    obtain ⟨zt6, h, gt6⟩ := cutb_some h
    refine W.r_cut (fun (t6 : Unit) => ⟨[(1, .ptr 1 0 0), (3, .sl 2)], [(1, some (.box [.d (D.i v0.mRows), .d (D.i v0.mCols), .d (D.s v0.mCells)])), (2, some (.arr 4 (List.map Gx.Slot.enc x4) true))], 1000⟩) (fun t => .nx t = zt6) ?_ ?_
    ·refine avb ?_
     refine lns (x4.length : Int) ?_
     refine avb ?_
     refine loop_lp (fun (p1 : Int) => ⟨[(1, .ptr 1 0 0), (3, .sl 2), (22, .sl 2), (23, .d (D.i (x4.length : Int))), (24, .d (D.i p1))], [(1, some (.box [.d (D.i v0.mRows), .d (D.i v0.mCols), .d (D.s v0.mCells)])), (2, some (.arr 4 (List.map Gx.Slot.enc x4) true))], 1000⟩) h ?_ ?_
     ·exact weak_by
     intro np1 p1 yp1 h hfp1
     unfold i_FormOf_L1 at h
     refine avb ?_
     refine brb h ?_ ?_<;>intro _ h
     ·refine idxp_sel h (fun x5 hx5 h => ?_)
      refine avb ?_
      refine ldp_sel hx5 ?_
      refine avb ?_
      refine brb h ?_ ?_<;>intro _ h
      ·have h := finr hfp1 h
       have h := cutr gt6 h
       cases h;exact eq_by
      ·exact lbk hfp1 h
     ·have h := finr hfp1 h
      refine cut_at (()) (some_in h) ?_
      exact weak_by
    rintro t6 rfl
    have h : _ = some _ := gt6
    refine ab0 ?_
    obtain ⟨zt9, h, gt9⟩ := cutb_some h
    refine W.r_cut (fun (t9 : Unit) => ⟨[(1, .ptr 1 0 0)], [(1, some (.box [.d (D.i v0.mRows), .d (D.i v0.mCols), .d (D.s v0.mCells)]))], 1000⟩) (fun t => .nx t = zt9) ?_ ?_
    ·refine avb ?_
     refine lns (x4.length : Int) ?_
     refine avb ?_
     refine loop_lp (fun (p2 : Int) => ⟨[(1, .ptr 1 0 0), (32, .sl 2), (33, .d (D.i (x4.length : Int))), (34, .d (D.i p2))], [(1, some (.box [.d (D.i v0.mRows), .d (D.i v0.mCols), .d (D.s v0.mCells)])), (2, some (.arr 4 (List.map Gx.Slot.enc x4) true))], 1000⟩) h ?_ ?_
     ·exact weak_by
     intro np2 p2 yp2 h hfp2
     unfold i_FormOf_L2 at h
     refine avb ?_
     refine brb h ?_ ?_<;>intro _ h
     ·refine idxp_sel h (fun x7 hx7 h => ?_)
      refine avb ?_
      refine ldp_sel hx7 ?_
      refine avb ?_
      refine plb ?_;refine call_sel (E := fun (x : Int) => DV.one (D.i x)) h (fun x8 h1 => (i_UncheckedIn_ok N v0 p2 h1)) (fun x8 hx8 h => ?_)
      refine avb ?_
      refine brb h ?_ ?_<;>intro _ h
      ·have h := finr hfp2 h
       have h := cutr gt9 h
       cases h;exact eq_by
      ·exact lbk hfp2 h
     ·have h := finr hfp2 h
      refine cut_at (()) (some_in h) ?_
      exact weak_by
    rintro t9 rfl
    have h : _ = some _ := gt9
    refine avb ?_
    refine plb ?_;refine call_sel (E := fun (x : Bool) => DV.one (D.b x)) h (fun x10 h1 => (i_alone_ok N v0 v0.mCells h1)) (fun x10 hx10 h => ?_)
    refine avb ?_
    refine brb h ?_ ?_<;>intro _ h
    ·cases h;exact eq_by
    ·cases h;exact eq_by

theorem i_IsFill_ok (N : Nat) (v0 : Gx.Grid) (v1 : List UInt8) {r : Bool} (h : i_IsFill N v0 v1 = some r) : Pure Tryz.prog 125 [DV.agg (Gx.Grid.enc v0), DV.one (D.s v1)] (DV.one (D.b r)) := by
 refine pure_of_walk Tryz.tok Tryz.mixed Tryz.func125 (by kernel_rfl) fun W => ?_
 unfold i_IsFill at h
 refine avb ?_
 refine plb ?_;refine call_sel (E := fun (x : Bool) => DV.one (D.b x)) h (fun x1 h1 => (i_IsGrid_ok N v0 h1)) (fun x1 hx1 h => ?_)
 refine avb ?_
 refine brb h ?_ ?_<;>intro _ h
 ·cases h;exact eq_by
 ·refine lns (v1.length : Int) ?_
  refine avb ?_
  refine lns (v0.mCells.length : Int) ?_
  refine avb ?_
  refine br_sel h (fun _ h => ?_) (fun _ h => ?_)
  ·refine avb ?_
   cases h;exact eq_by
  ·refine ab0 ?_
   obtain ⟨zt3, h, gt3⟩ := cutb_some h
   refine W.r_cut (fun (t3 : Unit) => ⟨[], [], 1000⟩) (fun t => .nx t = zt3) ?_ ?_
   ·refine avb ?_
    refine lns (v1.length : Int) ?_
    refine avb ?_
    refine loop_lp (fun (p1 : Int) => ⟨[(1, .d (D.s v1)), (2, .ptr 1 0 0), (18, .d (D.i (v1.length : Int))), (19, .d (D.i p1))], [(1, some (.box [.d (D.i v0.mRows), .d (D.i v0.mCols), .d (D.s v0.mCells)]))], 1000⟩) h ?_ ?_
    ·exact weak_by
    intro np1 p1 yp1 h hfp1
    unfold i_IsFill_L1 at h
    refine avb ?_
    refine brb h ?_ ?_<;>intro _ h
    ·refine chk_sel h (fun q => q) (fun h => ?_)
     refine avb ?_
     refine chk_sel h (fun q => q) (fun h => ?_)
     refine avb ?_
     refine brb h ?_ ?_<;>intro _ h
     ·have h := finr hfp1 h
      have h := cutr gt3 h
      cases h;exact eq_by
     ·refine chk_sel h (fun q => q) (fun h => ?_)
      refine avb ?_
      refine brb h ?_ ?_<;>intro _ h
      ·refine chk_sel h (fun q => q) (fun h => ?_)
       refine avb ?_
       refine brb h ?_ ?_<;>intro _ h
       ·refine chk_sel h (fun q => q) (fun h => ?_)
        refine avb ?_
        refine plb ?_;refine call_sel (E := fun (x : Bool) => DV.one (D.b x)) h (fun x2 h1 => (i_isLetter_ok N (byteI v1 p1) h1)) (fun x2 hx2 h => ?_)
        refine avb ?_
        refine brb h ?_ ?_<;>intro _ h
        ·have h := finr hfp1 h
         have h := cutr gt3 h
         cases h;exact eq_by
        ·exact lbk hfp1 h
       ·exact lbk hfp1 h
      ·exact lbk hfp1 h
    ·have h := finr hfp1 h
     refine cut_at (()) (some_in h) ?_
     exact weak_by
   rintro t3 rfl
   have h : _ = some _ := gt3
   refine avb ?_
   cases h;exact eq_by

theorem i_needsWord_ok (N : Nat) (v0 : Int) {r : Bool} (h : i_needsWord N v0 = some r) : Pure Tryz.prog 209 [DV.one (D.i v0)] (DV.one (D.b r)) := by
 refine pure_of_walk Tryz.tok Tryz.mixed Tryz.func209 (by kernel_rfl) fun W => ?_
 unfold i_needsWord at h
 refine avb ?_
 refine brb h ?_ ?_<;>intro _ h
 ·cases h;exact eq_by
 ·cases h;exact eq_by

theorem i_isPair_ok (N : Nat) (v0 : Int) {r : Bool} (h : i_isPair N v0 = some r) : Pure Tryz.prog 210 [DV.one (D.i v0)] (DV.one (D.b r)) := by
 refine pure_of_walk Tryz.tok Tryz.mixed Tryz.func210 (by kernel_rfl) fun W => ?_
 unfold i_isPair at h
 refine avb ?_
 refine brb h ?_ ?_<;>intro _ h
 ·cases h;exact eq_by
 ·cases h;exact eq_by

theorem i_IsPlay_ok (N : Nat) (v0 : List (Gx.Step)) {r : Bool} (h : i_IsPlay N v0 = some r) : Pure Tryz.prog 180 [DV.one (D.sl 4 (List.map Gx.Step.enc v0))] (DV.one (D.b r)) := by
 refine pure_of_walk Tryz.tok Tryz.mixed Tryz.func180 (by kernel_rfl) fun W => ?_
 unfold i_IsPlay at h
 refine avb ?_
 refine lns (v0.length : Int) ?_
 refine avb ?_
 refine plb ?_;refine call_sel (E := fun (x : Bool) => DV.one (D.b x)) h (fun x1 h1 => (i_InRange_ok N (v0.length : Int) 1 9 h1)) (fun x1 hx1 h => ?_)
 refine avb ?_
 refine br_sel h (fun _ h => ?_) (fun _ h => ?_)
 ·refine avb ?_
  cases h;exact eq_by
 ·refine ab0 ?_
  obtain ⟨zt13, h, gt13⟩ := cutb_some h
  refine W.r_cut (fun (t13 : Unit) => ⟨[], [], 1000⟩) (fun t => .nx t = zt13) ?_ ?_
  ·refine avb ?_
   refine lns (v0.length : Int) ?_
   refine avb ?_
   refine loop_lp (fun (p1 : Int) => ⟨[(0, .d (D.sl 4 (List.map Gx.Step.enc v0))), (9, .d (D.sl 4 (List.map Gx.Step.enc v0))), (10, .d (D.i (v0.length : Int))), (11, .d (D.i p1))], [], 1000⟩) h ?_ ?_
   ·exact weak_by
   intro np1 p1 yp1 h hfp1
   unfold i_IsPlay_L1 at h
   refine avb ?_
   refine brb h ?_ ?_<;>intro _ h
   ·refine idx_sel h (fun x2 hx2 h => ?_)
    refine avb ?_
    refine plb ?_;refine call_sel (E := fun (x : Bool) => DV.one (D.b x)) h (fun x3 h1 => (i_InRange_ok N x2.mKind 1 9 h1)) (fun x3 hx3 h => ?_)
    refine avb ?_
    refine brb h ?_ ?_<;>intro _ h
    ·have h := finr hfp1 h
     have h := cutr gt13 h
     cases h;exact eq_by
    ·refine br_sel h (fun _ h => ?_) (fun _ h => ?_)
     ·refine avb ?_
      refine plb ?_;refine call_sel (E := fun (x : Bool) => DV.one (D.b x)) h (fun x4 h1 => (i_IsWord_ok N x2.mWord h1)) (fun x4 hx4 h => ?_)
      refine avb ?_
      refine brb h ?_ ?_<;>intro _ h
      ·have h := finr hfp1 h
       have h := cutr gt13 h
       cases h;exact eq_by
      ·refine brb h ?_ ?_<;>intro _ h
       ·have h := finr hfp1 h
        have h := cutr gt13 h
        cases h;exact eq_by
       ·refine brb h ?_ ?_<;>intro _ h
        ·have h := finr hfp1 h
         have h := cutr gt13 h
         cases h;exact eq_by
        ·exact lbk hfp1 h
     ·refine ab0 ?_
      obtain ⟨zt8, h, gt8⟩ := cutb_some h
      refine W.r_cut (fun (t8 : Unit) => ⟨[(0, .d (D.sl 4 (List.map Gx.Step.enc v0))), (3, .d (D.i p1)), (4, .ptr 1 0 0), (9, .d (D.sl 4 (List.map Gx.Step.enc v0))), (10, .d (D.i (v0.length : Int))), (11, .d (D.i p1))], [(1, some (.box [.d (D.i x2.mKind), .d (D.s x2.mWord), .d (D.i x2.mA), .d (D.i x2.mB)]))], 1000⟩) (fun t => .nx t = zt8) ?_ ?_
      ·refine avb ?_
       refine brb h ?_ ?_<;>intro _ h
       ·have h := cutr gt8 h
        have h := finr hfp1 h
        have h := cutr gt13 h
        cases h;exact eq_by
       ·refine plb ?_;refine call_sel (E := fun (x : Bool) => DV.one (D.b x)) h (fun x5 h1 => (i_at_ok N x2.mA p1 h1)) (fun x5 hx5 h => ?_)
        refine avb ?_
        refine brb h ?_ ?_<;>intro _ h
        ·have h := cutr gt8 h
         have h := finr hfp1 h
         have h := cutr gt13 h
         cases h;exact eq_by
        ·refine plb ?_;refine call_sel (E := fun (x : Bool) => DV.one (D.b x)) h (fun x6 h1 => (i_needsWord_ok N x2.mKind h1)) (fun x6 hx6 h => ?_)
         refine avb ?_
         refine brb h ?_ ?_<;>intro _ h
         ·refine idx_sel h (fun x7 hx7 h => ?_)
          refine avb ?_
          refine brb h ?_ ?_<;>intro _ h
          ·have h := cutr gt8 h
           have h := finr hfp1 h
           have h := cutr gt13 h
           cases h;exact eq_by
          ·refine cut_at (()) (some_in h) ?_
           exact weak_by
         ·refine cut_at (()) (some_in h) ?_
          exact weak_by
      rintro t8 rfl
      have h : _ = some _ := gt8
      refine avb ?_
      refine plb ?_;refine call_sel (E := fun (x : Bool) => DV.one (D.b x)) h (fun x9 h1 => (i_isPair_ok N x2.mKind h1)) (fun x9 hx9 h => ?_)
      refine avb ?_
      refine brb h ?_ ?_<;>intro _ h
      ·refine plb ?_;refine call_sel (E := fun (x : Bool) => DV.one (D.b x)) h (fun x10 h1 => (i_at_ok N x2.mB p1 h1)) (fun x10 hx10 h => ?_)
       refine avb ?_
       refine brb h ?_ ?_<;>intro _ h
       ·have h := finr hfp1 h
        have h := cutr gt13 h
        cases h;exact eq_by
       ·refine plb ?_;refine call_sel (E := fun (x : Bool) => DV.one (D.b x)) h (fun x11 h1 => (i_isPair_ok N x2.mKind h1)) (fun x11 hx11 h => ?_)
        refine avb ?_
        refine brb h ?_ ?_<;>intro _ h
        ·refine brb h ?_ ?_<;>intro _ h
         ·have h := finr hfp1 h
          have h := cutr gt13 h
          cases h;exact eq_by
         ·exact lbk hfp1 h
        ·exact lbk hfp1 h
      ·refine plb ?_;refine call_sel (E := fun (x : Bool) => DV.one (D.b x)) h (fun x12 h1 => (i_isPair_ok N x2.mKind h1)) (fun x12 hx12 h => ?_)
       refine avb ?_
       refine brb h ?_ ?_<;>intro _ h
       ·refine brb h ?_ ?_<;>intro _ h
        ·have h := finr hfp1 h
         have h := cutr gt13 h
         cases h;exact eq_by
        ·exact lbk hfp1 h
       ·exact lbk hfp1 h
   ·have h := finr hfp1 h
    refine cut_at (()) (some_in h) ?_
    exact weak_by
  rintro t13 rfl
  have h : _ = some _ := gt13
  refine avb ?_
  cases h;exact eq_by

theorem i_IsClue_ok (N : Nat) (v0 : Gx.Clue) {r : Bool} (h : i_IsClue N v0 = some r) : Pure Tryz.prog 129 [DV.agg (Gx.Clue.enc v0)] (DV.one (D.b r)) := by
 refine pure_of_walk Tryz.tok Tryz.mixed Tryz.func129 (by kernel_rfl) fun W => ?_
 unfold i_IsClue at h
 refine avb ?_
 refine plb ?_;refine call_sel (E := fun (x : Bool) => DV.one (D.b x)) h (fun x1 h1 => (i_InRange_ok N v0.mSense 1 99 h1)) (fun x1 hx1 h => ?_)
 refine avb ?_
 refine brb h ?_ ?_<;>intro _ h
 ·refine plb ?_;refine call_sel (E := fun (x : Bool) => DV.one (D.b x)) h (fun x2 h1 => (i_IsPlay_ok N v0.mPlay h1)) (fun x2 hx2 h => ?_)
  refine avb ?_
  cases h;exact eq_by
 ·cases h;exact eq_by

theorem i_IsDraft_1_ok (N : Nat) (v0 : Gx.Clue) {r : Bool} (h : i_IsDraft_1 N v0 = some r) : Pure Tryz.prog 128 [DV.agg (Gx.Clue.enc v0)] (DV.one (D.b r)) := by
 refine pure_of_walk Tryz.tok Tryz.mixed Tryz.func128 (by kernel_rfl) fun W => ?_
 unfold i_IsDraft_1 at h
 refine avb ?_
 refine plb ?_;refine call_sel (E := fun (x : Bool) => DV.one (D.b x)) h (fun x1 h1 => (i_IsClue_ok N v0 h1)) (fun x1 hx1 h => ?_)
 refine avb ?_
 refine brb h ?_ ?_<;>intro _ h
 ·refine plb ?_;refine call_sel (E := fun (x : Bool) => DV.one (D.b x)) h (fun x2 h1 => (i_sameClue_ok N v0 (⟨0, []⟩ : Gx.Clue) h1)) (fun x2 hx2 h => ?_)
  refine avb ?_
  cases h;exact eq_by
 ·cases h;exact eq_by

theorem g_slices_IndexFunc_Simpl_Clue_impl_Clue_ok0 (N : Nat) (v0 : List (Gx.Clue)) (v1 : (Gx.Clue) → Option Bool) (fv1 : FuncId) (hv1 : ∀ a0 r, v1 a0 = some r → Pure Tryz.prog fv1 [DV.agg (Gx.Clue.enc a0)] (DV.one (D.b r))) {r : Int} (h : g_slices_IndexFunc_Simpl_Clue_impl_Clue N v0 v1 = some r) : Pure Tryz.prog 179 [DV.one (D.sl 2 (List.map Gx.Clue.enc v0)), DV.fn fv1 []] (DV.one (D.i r)) := by
 refine pure_of_walk Tryz.tok Tryz.mixed Tryz.func179 (by kernel_rfl) fun W => ?_
 unfold g_slices_IndexFunc_Simpl_Clue_impl_Clue at h
 refine ab0 ?_
 refine W.r_seq ?_
 refine ab0 ?_
 obtain ⟨zt3, h, gt3⟩ := cutb_some h
 refine W.r_cut (fun (t3 : Unit) => ⟨[], [], 1000⟩) (fun t => .nx t = zt3) ?_ ?_
 ·refine avb ?_
  refine lns (v0.length : Int) ?_
  refine avb ?_
  refine loop_lp (fun (p1 : Int) => ⟨[(0, .d (D.sl 2 (List.map Gx.Clue.enc v0))), (1, .fn fv1 []), (7, .d (D.i (v0.length : Int))), (8, .d (D.i p1))], [], 1000⟩) h ?_ ?_
  ·exact weak_by
  intro np1 p1 yp1 h hfp1
  unfold g_slices_IndexFunc_Simpl_Clue_impl_Clue_L1 at h
  refine avb ?_
  refine brb h ?_ ?_<;>intro _ h
  ·refine idx_sel h (fun x1 hx1 h => ?_)
   refine avb ?_
   refine plb ?_;refine call_sel (E := fun (x : Bool) => DV.one (D.b x)) h (fun x2 h1 => (hv1 _ _ h1)) (fun x2 hx2 h => ?_)
   refine avb ?_
   refine brb h ?_ ?_<;>intro _ h
   ·have h := finr hfp1 h
    have h := cutr gt3 h
    cases h;exact eq_by
   ·exact lbk hfp1 h
  ·have h := finr hfp1 h
   refine cut_at (()) (some_in h) ?_
   exact weak_by
 rintro t3 rfl
 have h : _ = some _ := gt3
 refine avb ?_
 cases h;exact eq_by

theorem g_slices_ContainsFunc_Simpl_Clue_impl_Clue_ok0 (N : Nat) (v0 : List (Gx.Clue)) (v1 : (Gx.Clue) → Option Bool) (fv1 : FuncId) (hv1 : ∀ a0 r, v1 a0 = some r → Pure Tryz.prog fv1 [DV.agg (Gx.Clue.enc a0)] (DV.one (D.b r))) {r : Bool} (h : g_slices_ContainsFunc_Simpl_Clue_impl_Clue N v0 v1 = some r) : Pure Tryz.prog 127 [DV.one (D.sl 2 (List.map Gx.Clue.enc v0)), DV.fn fv1 []] (DV.one (D.b r)) := by
 refine pure_of_walk Tryz.tok Tryz.mixed Tryz.func127 (by kernel_rfl) fun W => ?_
 unfold g_slices_ContainsFunc_Simpl_Clue_impl_Clue at h
 refine avb ?_
 refine plb ?_;refine call_sel (E := fun (x : Int) => DV.one (D.i x)) h (fun x1 h1 => (g_slices_IndexFunc_Simpl_Clue_impl_Clue_ok0 N v0 v1 fv1 hv1 h1)) (fun x1 hx1 h => ?_)
 refine avb ?_
 cases h;exact eq_by

theorem i_IsDraft_ok (N : Nat) (v0 : Gx.Draft) {r : Bool} (h : i_IsDraft N v0 = some r) : Pure Tryz.prog 56 [DV.agg (Gx.Draft.enc v0)] (DV.one (D.b r)) := by
 refine pure_of_walk Tryz.tok Tryz.mixed Tryz.func56 (by kernel_rfl) fun W => ?_
 unfold i_IsDraft at h
 refine avb ?_
 refine plb ?_;refine call_sel (E := fun (x : Int) => DV.one (D.i x)) h (fun x1 h1 => (i_FormOf_ok N v0.mGrid h1)) (fun x1 hx1 h => ?_)
 refine avb ?_
 refine brb h ?_ ?_<;>intro _ h
 ·refine plb ?_;refine call_sel (E := fun (x : Bool) => DV.one (D.b x)) h (fun x2 h1 => (i_IsFill_ok N v0.mGrid v0.mFill h1)) (fun x2 hx2 h => ?_)
  refine avb ?_
  refine brb h ?_ ?_<;>intro _ h
  ·refine lns (v0.mClues.length : Int) ?_
   refine avb ?_
   refine plb ?_;refine call_sel (E := fun (x : (List (Gx.Slot))) => DV.one (D.sl 4 (List.map Gx.Slot.enc x))) h (fun x3 h1 => (i_SlotsOf_ok N v0.mGrid h1)) (fun x3 hx3 h => ?_)
   refine avb ?_
   refine lns (x3.length : Int) ?_
   refine avb ?_
   refine brb h ?_ ?_<;>intro _ h
   ·refine plb ?_;refine call_sel (E := fun (x : Bool) => DV.one (D.b x)) h (fun x4 h1 => (i_InRange_ok N v0.mVersion 1 9999 h1)) (fun x4 hx4 h => ?_)
    refine avb ?_
    refine brb h ?_ ?_<;>intro _ h
    ·refine plb ?_;refine call_sel (E := fun (x : Bool) => DV.one (D.b x)) h (fun x5 h1 => (g_slices_ContainsFunc_Simpl_Clue_impl_Clue_ok0 N v0.mClues (fun a0 => i_IsDraft_1 N a0) 128 (fun a0 _ hh => i_IsDraft_1_ok N a0 hh) h1)) (fun x5 hx5 h => ?_)
     refine avb ?_
     cases h;exact eq_by
    ·cases h;exact eq_by
   ·cases h;exact eq_by
  ·cases h;exact eq_by
 ·cases h;exact eq_by

theorem i_IsPuzzle_1_ok (N : Nat) (v0 : Gx.Clue) {r : Bool} (h : i_IsPuzzle_1 N v0 = some r) : Pure Tryz.prog 211 [DV.agg (Gx.Clue.enc v0)] (DV.one (D.b r)) := by
 refine pure_of_walk Tryz.tok Tryz.mixed Tryz.func211 (by kernel_rfl) fun W => ?_
 unfold i_IsPuzzle_1 at h
 refine avb ?_
 refine plb ?_;refine call_sel (E := fun (x : Bool) => DV.one (D.b x)) h (fun x1 h1 => (i_IsClue_ok N v0 h1)) (fun x1 hx1 h => ?_)
 refine avb ?_
 cases h;exact eq_by

theorem i_IsPuzzle_ok (N : Nat) (v0 : Gx.Puzzle) {r : Bool} (h : i_IsPuzzle N v0 = some r) : Pure Tryz.prog 181 [DV.agg (Gx.Puzzle.enc v0)] (DV.one (D.b r)) := by
 refine pure_of_walk Tryz.tok Tryz.mixed Tryz.func181 (by kernel_rfl) fun W => ?_
 unfold i_IsPuzzle at h
 refine avb ?_
 refine plb ?_;refine call_sel (E := fun (x : Int) => DV.one (D.i x)) h (fun x1 h1 => (i_FormOf_ok N v0.mGrid h1)) (fun x1 hx1 h => ?_)
 refine avb ?_
 refine brb h ?_ ?_<;>intro _ h
 ·cases h;exact eq_by
 ·refine plb ?_;refine call_sel (E := fun (x : (List (Gx.Slot))) => DV.one (D.sl 4 (List.map Gx.Slot.enc x))) h (fun x2 h1 => (i_SlotsOf_ok N v0.mGrid h1)) (fun x2 hx2 h => ?_)
  refine avb ?_
  refine lns (x2.length : Int) ?_
  refine avb ?_
  refine lns (v0.mClues.length : Int) ?_
  refine avb ?_
  refine brb h ?_ ?_<;>intro _ h
  ·refine lns (v0.mSeals.length : Int) ?_
   refine avb ?_
   refine brb h ?_ ?_<;>intro _ h
   ·refine plb ?_;refine call_sel (E := fun (x : Bool) => DV.one (D.b x)) h (fun x3 h1 => (i_InRange_ok N v0.mSalt 1 9999 h1)) (fun x3 hx3 h => ?_)
    refine avb ?_
    refine brb h ?_ ?_<;>intro _ h
    ·refine plb ?_;refine call_sel (E := fun (x : Bool) => DV.one (D.b x)) h (fun x4 h1 => (g_slices_ContainsFunc_Simpl_Clue_impl_Clue_ok0 N v0.mClues (fun a0 => i_IsPuzzle_1 N a0) 211 (fun a0 _ hh => i_IsPuzzle_1_ok N a0 hh) h1)) (fun x4 hx4 h => ?_)
     refine avb ?_
     cases h;exact eq_by
    ·cases h;exact eq_by
   ·cases h;exact eq_by
  ·cases h;exact eq_by

theorem i_openIn_ok (N : Nat) (v0 : List UInt8) {r : Int} (h : i_openIn N v0 = some r) : Pure Tryz.prog 212 [DV.one (D.s v0)] (DV.one (D.i r)) := by
 refine pure_of_walk Tryz.tok Tryz.mixed Tryz.func212 (by kernel_rfl) fun W => ?_
 unfold i_openIn at h
 refine ab0 ?_
 refine W.r_seq ?_
 refine ab0 ?_
 refine W.r_seq ?_
 refine ab0 ?_
 obtain ⟨zt1, h, gt1⟩ := bnd_some h
 refine W.r_cut (fun (t1 : Int) => ⟨[(3, .d (D.i t1))], [], 1000⟩) (fun t => t = zt1) ?_ ?_
 ·refine avb ?_
  refine lns (v0.length : Int) ?_
  refine avb ?_
  refine loop_lp (fun (p1 : Int × Int) => ⟨[(0, .d (D.s v0)), (3, .d (D.i p1.1)), (6, .d (D.i (v0.length : Int))), (7, .d (D.i p1.2))], [], 1000⟩) h ?_ ?_
  ·exact weak_by
  intro np1 p1 yp1 h hfp1
  unfold i_openIn_L1 at h
  refine avb ?_
  refine brb h ?_ ?_<;>intro _ h
  ·refine chk_sel h (fun q => q) (fun h => ?_)
   refine avb ?_
   refine brb h ?_ ?_<;>intro _ h
   ·exact lbk hfp1 h
   ·exact lbk hfp1 h
  ·have h := finr hfp1 h
   refine cut_at (p1.1) (some_in h) ?_
   exact weak_by
 rintro t1 rfl
 have h : _ = some _ := gt1
 refine avb ?_
 cases h;exact eq_by

theorem i_IsFull_ok (N : Nat) (v0 : Gx.Grid) (v1 : List UInt8) {r : Bool} (h : i_IsFull N v0 v1 = some r) : Pure Tryz.prog 182 [DV.agg (Gx.Grid.enc v0), DV.one (D.s v1)] (DV.one (D.b r)) := by
 refine pure_of_walk Tryz.tok Tryz.mixed Tryz.func182 (by kernel_rfl) fun W => ?_
 unfold i_IsFull at h
 refine avb ?_
 refine plb ?_;refine call_sel (E := fun (x : Bool) => DV.one (D.b x)) h (fun x1 h1 => (i_IsFill_ok N v0 v1 h1)) (fun x1 hx1 h => ?_)
 refine avb ?_
 refine brb h ?_ ?_<;>intro _ h
 ·refine plb ?_;refine call_sel (E := fun (x : Int) => DV.one (D.i x)) h (fun x2 h1 => (i_openIn_ok N v1 h1)) (fun x2 hx2 h => ?_)
  refine avb ?_
  cases h;exact eq_by
 ·cases h;exact eq_by

theorem i_readCells_ok (N : Nat) (v0 : List UInt8) (v1 : List (Int)) {r : (List UInt8)} (h : i_readCells N v0 v1 = some r) : Pure Tryz.prog 195 [DV.one (D.s v0), DV.one (D.sl 1 (List.map Gx.encI v1))] (DV.one (D.s r)) := by
 refine pure_of_walk Tryz.tok Tryz.mixed Tryz.func195 (by kernel_rfl) fun W => ?_
 unfold i_readCells at h
 refine ab0 ?_
 refine W.r_seq ?_
 refine ab0 ?_
 refine W.r_seq ?_
 refine ab0 ?_
 obtain ⟨zt2, h, gt2⟩ := bnd_some h
 refine W.r_cut (fun (t2 : (List (UInt8))) => ⟨[(5, .sl 1)], [(1, some (.arr 1 (List.map encU t2) true))], 1000⟩) (fun t => t = zt2) ?_ ?_
 ·refine avb ?_
  refine lns (v1.length : Int) ?_
  refine avb ?_
  refine loop_lp (fun (p1 : (List (UInt8)) × Int) => ⟨[(0, .d (D.s v0)), (5, .sl 1), (8, .d (D.sl 1 (List.map Gx.encI v1))), (9, .d (D.i (v1.length : Int))), (10, .d (D.i p1.2))], [(1, some (.arr 1 (List.map encU p1.1) true))], 1000⟩) h ?_ ?_
  ·exact weak_by
  intro np1 p1 yp1 h hfp1
  unfold i_readCells_L1 at h
  refine avb ?_
  refine brb h ?_ ?_<;>intro _ h
  ·refine idx_sel h (fun x1 hx1 h => ?_)
   refine avb ?_
   refine chk_sel h (fun q => q) (fun h => ?_)
   refine avb ?_
   refine app_sel h (app_ok (by (first|rfl|simp [sub])) (by (first|rfl|simp [sub])) (by decide)) (by (intro h; cases h)) (fun h => ?_)
   refine avb ?_
   exact lbk hfp1 h
  ·have h := finr hfp1 h
   refine cut_at (p1.1) (some_in h) ?_
   exact weak_by
 rintro t2 rfl
 have h : _ = some _ := gt2
 refine avb ?_
 refine ⟨t2, (by (exact eq_by)), ?_⟩
 refine avb ?_
 cases h;exact eq_by

theorem i_patterns_ok (N : Nat) (v0 : Gx.Grid) (v1 : List UInt8) {r : (List (List UInt8))} (h : i_patterns N v0 v1 = some r) : Pure Tryz.prog 157 [DV.agg (Gx.Grid.enc v0), DV.one (D.s v1)] (DV.one (D.sl 1 (List.map Gx.encS r))) := by
 refine pure_of_walk Tryz.tok Tryz.mixed Tryz.func157 (by kernel_rfl) fun W => ?_
 unfold i_patterns at h
 refine avb ?_
 refine plb ?_;refine call_sel (E := fun (x : Bool) => DV.one (D.b x)) h (fun x1 h1 => (i_IsFill_ok N v0 v1 h1)) (fun x1 hx1 h => ?_)
 refine avb ?_
 refine br_sel h (fun _ h => ?_) (fun _ h => ?_)
 ·refine avb ?_
  cases h;exact eq_by
 ·refine ab0 ?_
  refine W.r_seq ?_
  refine ab0 ?_
  obtain ⟨zt5, h, gt5⟩ := bnd_some h
  refine W.r_cut (fun (t5 : (List (List UInt8))) => ⟨[(5, .sl 1)], [(1, some (.arr 1 (List.map Gx.encS t5) true))], 1000⟩) (fun t => t = zt5) ?_ ?_
  ·refine avb ?_
   refine plb ?_;refine call_sel (E := fun (x : (List (List (Int)))) => DV.one (D.sl 1 (List.map (Gx.encL 1 Gx.encI) x))) h (fun x2 h1 => (i_layout_ok N v0 h1)) (fun x2 hx2 h => ?_)
   refine avb ?_
   refine lns (x2.length : Int) ?_
   refine avb ?_
   refine loop_lp (fun (p1 : (List (List UInt8)) × Int) => ⟨[(1, .d (D.s v1)), (5, .sl 1), (13, .sl 2), (14, .d (D.i (x2.length : Int))), (15, .d (D.i p1.2))], [(1, some (.arr 1 (List.map Gx.encS p1.1) true)), (2, some (.arr 1 (List.map (Gx.encL 1 Gx.encI) x2) true))], 1000⟩) h ?_ ?_
   ·exact weak_by
   intro np1 p1 yp1 h hfp1
   unfold i_patterns_L1 at h
   refine avb ?_
   refine brb h ?_ ?_<;>intro _ h
   ·refine idxp_sel h (fun x3 hx3 h => ?_)
    refine avb ?_
    refine ldp_sel hx3 ?_
    refine avb ?_
    refine plb ?_;refine call_sel (E := fun (x : (List UInt8)) => DV.one (D.s x)) h (fun x4 h1 => (i_readCells_ok N v1 x3 h1)) (fun x4 hx4 h => ?_)
    refine avb ?_
    refine app_sel h (app_ok (by (first|rfl|simp [sub])) (by (first|rfl|simp [sub])) (by decide)) (by (intro h; cases h)) (fun h => ?_)
    refine avb ?_
    exact lbk hfp1 h
   ·have h := finr hfp1 h
    refine cut_at (p1.1) (some_in h) ?_
    exact weak_by
  rintro t5 rfl
  have h : _ = some _ := gt5
  refine avb ?_
  cases h;exact eq_by

theorem i_LettersOf_ok (N : Nat) (v0 : List UInt8) {r : (List (Int))} (h : i_LettersOf N v0 = some r) : Pure Tryz.prog 220 [DV.one (D.s v0)] (DV.one (D.sl 1 (List.map Gx.encI r))) := by
 refine pure_of_walk Tryz.tok Tryz.mixed Tryz.func220 (by kernel_rfl) fun W => ?_
 unfold i_LettersOf at h
 refine ab0 ?_
 refine W.r_seq ?_
 refine ab0 ?_
 refine W.r_seq ?_
 refine ab0 ?_
 obtain ⟨zt1, h, gt1⟩ := bnd_some h
 refine W.r_cut (fun (t1 : (List (Int))) => ⟨[(3, .sl 1)], [(1, some (.arr 1 (List.map Gx.encI t1) true))], 1000⟩) (fun t => t = zt1) ?_ ?_
 ·refine avb ?_
  refine lns (v0.length : Int) ?_
  refine avb ?_
  refine loop_lp (fun (p1 : (List (Int)) × Int) => ⟨[(0, .d (D.s v0)), (3, .sl 1), (6, .d (D.i (v0.length : Int))), (7, .d (D.i p1.2))], [(1, some (.arr 1 (List.map Gx.encI p1.1) true))], 1000⟩) h ?_ ?_
  ·exact weak_by
  intro np1 p1 yp1 h hfp1
  unfold i_LettersOf_L1 at h
  refine avb ?_
  refine brb h ?_ ?_<;>intro _ h
  ·refine chk_sel h (fun q => q) (fun h => ?_)
   refine avb ?_
   refine app_sel h (app_ok (by (first|rfl|simp [sub])) (by (first|rfl|simp [sub])) (by decide)) (by (intro h; cases h)) (fun h => ?_)
   refine avb ?_
   exact lbk hfp1 h
  ·have h := finr hfp1 h
   refine cut_at (p1.1) (some_in h) ?_
   exact weak_by
 rintro t1 rfl
 have h : _ = some _ := gt1
 refine avb ?_
 cases h;exact eq_by

theorem i_Mod_ok (N : Nat) (v0 : Int) (v1 : Int) {r : Int} (h : i_Mod N v0 v1 = some r) : Pure Tryz.prog 230 [DV.one (D.i v0), DV.one (D.i v1)] (DV.one (D.i r)) := by
 refine pure_of_walk Tryz.tok Tryz.mixed Tryz.func230 (by kernel_rfl) fun W => ?_
 unfold i_Mod at h
 refine avb ?_
 refine plb ?_;refine call_sel (E := fun (x : Bool) => DV.one (D.b x)) h (fun x1 h1 => (i_InRange_ok N v1 1 1000000000000 h1)) (fun x1 hx1 h => ?_)
 refine avb ?_
 refine brb h ?_ ?_<;>intro _ h
 ·cases h;exact eq_by
 ·refine chk_sel h (fun q => q) (fun h => ?_)
  refine avb ?_
  refine chk_sel h (fun q => q) (fun h => ?_)
  refine avb ?_
  cases h;exact eq_by

theorem i_Hash_ok (N : Nat) (v0 : List (Int)) {r : Int} (h : i_Hash N v0 = some r) : Pure Tryz.prog 219 [DV.one (D.sl 1 (List.map Gx.encI v0))] (DV.one (D.i r)) := by
 refine pure_of_walk Tryz.tok Tryz.mixed Tryz.func219 (by kernel_rfl) fun W => ?_
 unfold i_Hash at h
 refine ab0 ?_
 refine W.r_seq ?_
 refine ab0 ?_
 refine W.r_seq ?_
 refine ab0 ?_
 obtain ⟨zt3, h, gt3⟩ := bnd_some h
 refine W.r_cut (fun (t3 : Int) => ⟨[(3, .d (D.i t3))], [], 1000⟩) (fun t => t = zt3) ?_ ?_
 ·refine avb ?_
  refine lns (v0.length : Int) ?_
  refine avb ?_
  refine loop_lp (fun (p1 : Int × Int) => ⟨[(3, .d (D.i p1.1)), (6, .d (D.sl 1 (List.map Gx.encI v0))), (7, .d (D.i (v0.length : Int))), (8, .d (D.i p1.2))], [], 1000⟩) h ?_ ?_
  ·exact weak_by
  intro np1 p1 yp1 h hfp1
  unfold i_Hash_L1 at h
  refine avb ?_
  refine brb h ?_ ?_<;>intro _ h
  ·refine idx_sel h (fun x1 hx1 h => ?_)
   refine avb ?_
   refine plb ?_;refine call_sel (E := fun (x : Int) => DV.one (D.i x)) h (fun x2 h1 => (i_Mod_ok N x1 2147483647 h1)) (fun x2 hx2 h => ?_)
   refine avb ?_
   refine chk_sel h (fun q => q) (fun h => ?_)
   refine avb ?_
   exact lbk hfp1 h
  ·have h := finr hfp1 h
   refine cut_at (p1.1) (some_in h) ?_
   exact weak_by
 rintro t3 rfl
 have h : _ = some _ := gt3
 refine avb ?_
 cases h;exact eq_by

theorem i_SealAnswer_ok (N : Nat) (v0 : Int) (v1 : Int) (v2 : List UInt8) {r : Int} (h : i_SealAnswer N v0 v1 v2 = some r) : Pure Tryz.prog 196 [DV.one (D.i v0), DV.one (D.i v1), DV.one (D.s v2)] (DV.one (D.i r)) := by
 refine pure_of_walk Tryz.tok Tryz.mixed Tryz.func196 (by kernel_rfl) fun W => ?_
 unfold i_SealAnswer at h
 refine avb ?_
 refine plb ?_;refine call_sel (E := fun (x : Bool) => DV.one (D.b x)) h (fun x1 h1 => (i_IsWord_ok N v2 h1)) (fun x1 hx1 h => ?_)
 refine avb ?_
 refine brb h ?_ ?_<;>intro _ h
 ·cases h;exact eq_by
 ·refine lns (v2.length : Int) ?_
  refine avb ?_
  refine plb ?_;refine call_sel (E := fun (x : (List (Int))) => DV.one (D.sl 1 (List.map Gx.encI x))) h (fun x2 h1 => (i_LettersOf_ok N v2 h1)) (fun x2 hx2 h => ?_)
  refine avb ?_
  refine app_sel h (app_ok (by (first|rfl|simp [sub])) (by (first|rfl|simp [sub])) (by decide)) (by (intro h; cases h)) (fun h => ?_)
  refine avb ?_
  refine plb ?_;refine call_sel (E := fun (x : Int) => DV.one (D.i x)) h (fun x3 h1 => (pure_args (by (exact eq_by)) (i_Hash_ok N (([v0, v1, (v2.length : Int)]) ++ x2) h1))) (fun x3 hx3 h => ?_)
  refine avb ?_
  cases h;exact eq_by

theorem i_ChecksAnswer_ok (N : Nat) (v0 : List (Int)) (v1 : Int) (v2 : Int) (v3 : List UInt8) {r : Bool} (h : i_ChecksAnswer N v0 v1 v2 v3 = some r) : Pure Tryz.prog 158 [DV.one (D.sl 1 (List.map Gx.encI v0)), DV.one (D.i v1), DV.one (D.i v2), DV.one (D.s v3)] (DV.one (D.b r)) := by
 refine pure_of_walk Tryz.tok Tryz.mixed Tryz.func158 (by kernel_rfl) fun W => ?_
 unfold i_ChecksAnswer at h
 refine avb ?_
 refine lns (v0.length : Int) ?_
 refine avb ?_
 refine plb ?_;refine call_sel (E := fun (x : Bool) => DV.one (D.b x)) h (fun x1 h1 => (i_at_ok N v2 (v0.length : Int) h1)) (fun x1 hx1 h => ?_)
 refine avb ?_
 refine brb h ?_ ?_<;>intro _ h
 ·refine plb ?_;refine call_sel (E := fun (x : Bool) => DV.one (D.b x)) h (fun x2 h1 => (i_IsWord_ok N v3 h1)) (fun x2 hx2 h => ?_)
  refine avb ?_
  refine brb h ?_ ?_<;>intro _ h
  ·refine plb ?_;refine call_sel (E := fun (x : Int) => DV.one (D.i x)) h (fun x3 h1 => (i_SealAnswer_ok N v1 v2 v3 h1)) (fun x3 hx3 h => ?_)
   refine avb ?_
   refine idx_sel h (fun x4 hx4 h => ?_)
   refine avb ?_
   cases h;exact eq_by
  ·cases h;exact eq_by
 ·cases h;exact eq_by

theorem i_RightSlots_ok (N : Nat) (v0 : Gx.Grid) (v1 : List UInt8) (v2 : List (Int)) (v3 : Int) {r : (List (Int))} (h : i_RightSlots N v0 v1 v2 v3 = some r) : Pure Tryz.prog 99 [DV.agg (Gx.Grid.enc v0), DV.one (D.s v1), DV.one (D.sl 1 (List.map Gx.encI v2)), DV.one (D.i v3)] (DV.one (D.sl 1 (List.map Gx.encI r))) := by
 refine pure_of_walk Tryz.tok Tryz.mixed Tryz.func99 (by kernel_rfl) fun W => ?_
 unfold i_RightSlots at h
 refine ab0 ?_
 refine W.r_seq ?_
 refine ab0 ?_
 refine W.r_seq ?_
 refine ab0 ?_
 obtain ⟨zt4, h, gt4⟩ := bnd_some h
 refine W.r_cut (fun (t4 : (List (Int))) => ⟨[(9, .sl 1)], [(1, some (.arr 1 (List.map Gx.encI t4) true))], 1000⟩) (fun t => t = zt4) ?_ ?_
 ·refine avb ?_
  refine plb ?_;refine call_sel (E := fun (x : (List (List UInt8))) => DV.one (D.sl 1 (List.map Gx.encS x))) h (fun x1 h1 => (i_patterns_ok N v0 v1 h1)) (fun x1 hx1 h => ?_)
  refine avb ?_
  refine lns (x1.length : Int) ?_
  refine avb ?_
  refine loop_lp (fun (p1 : (List (Int)) × Int) => ⟨[(2, .d (D.sl 1 (List.map Gx.encI v2))), (3, .d (D.i v3)), (9, .sl 1), (14, .sl 2), (15, .d (D.i (x1.length : Int))), (16, .d (D.i p1.2))], [(1, some (.arr 1 (List.map Gx.encI p1.1) true)), (2, some (.arr 1 (List.map Gx.encS x1) true))], 1000⟩) h ?_ ?_
  ·exact weak_by
  intro np1 p1 yp1 h hfp1
  unfold i_RightSlots_L1 at h
  refine avb ?_
  refine brb h ?_ ?_<;>intro _ h
  ·refine idxp_sel h (fun x2 hx2 h => ?_)
   refine avb ?_
   refine ldp_sel hx2 ?_
   refine avb ?_
   refine plb ?_;refine call_sel (E := fun (x : Bool) => DV.one (D.b x)) h (fun x3 h1 => (i_ChecksAnswer_ok N v2 v3 p1.2 x2 h1)) (fun x3 hx3 h => ?_)
   refine avb ?_
   refine brb h ?_ ?_<;>intro _ h
   ·refine app_sel h (app_ok (by (first|rfl|simp [sub])) (by (first|rfl|simp [sub])) (by decide)) (by (intro h; cases h)) (fun h => ?_)
    refine avb ?_
    exact lbk hfp1 h
   ·exact lbk hfp1 h
  ·have h := finr hfp1 h
   refine cut_at (p1.1) (some_in h) ?_
   exact weak_by
 rintro t4 rfl
 have h : _ = some _ := gt4
 refine avb ?_
 cases h;exact eq_by

theorem i_IsSolved_ok (N : Nat) (v0 : Gx.Puzzle) (v1 : List UInt8) {r : Bool} (h : i_IsSolved N v0 v1 = some r) : Pure Tryz.prog 130 [DV.agg (Gx.Puzzle.enc v0), DV.one (D.s v1)] (DV.one (D.b r)) := by
 refine pure_of_walk Tryz.tok Tryz.mixed Tryz.func130 (by kernel_rfl) fun W => ?_
 unfold i_IsSolved at h
 refine avb ?_
 refine plb ?_;refine call_sel (E := fun (x : Bool) => DV.one (D.b x)) h (fun x1 h1 => (i_IsPuzzle_ok N v0 h1)) (fun x1 hx1 h => ?_)
 refine avb ?_
 refine brb h ?_ ?_<;>intro _ h
 ·refine plb ?_;refine call_sel (E := fun (x : Bool) => DV.one (D.b x)) h (fun x2 h1 => (i_IsFull_ok N v0.mGrid v1 h1)) (fun x2 hx2 h => ?_)
  refine avb ?_
  refine brb h ?_ ?_<;>intro _ h
  ·refine plb ?_;refine call_sel (E := fun (x : (List (Int))) => DV.one (D.sl 1 (List.map Gx.encI x))) h (fun x3 h1 => (i_RightSlots_ok N v0.mGrid v1 v0.mSeals v0.mSalt h1)) (fun x3 hx3 h => ?_)
   refine avb ?_
   refine lns (x3.length : Int) ?_
   refine avb ?_
   refine lns (v0.mSeals.length : Int) ?_
   refine avb ?_
   cases h;exact eq_by
  ·cases h;exact eq_by
 ·cases h;exact eq_by

theorem i_IsIssue_ok (N : Nat) (v0 : Gx.Issue) {r : Bool} (h : i_IsIssue N v0 = some r) : Pure Tryz.prog 57 [DV.agg (Gx.Issue.enc v0)] (DV.one (D.b r)) := by
 refine pure_of_walk Tryz.tok Tryz.mixed Tryz.func57 (by kernel_rfl) fun W => ?_
 unfold i_IsIssue at h
 refine avb ?_
 refine plb ?_;refine call_sel (E := fun (x : Bool) => DV.one (D.b x)) h (fun x1 h1 => (i_InRange_ok N v0.mNumber 1 999 h1)) (fun x1 hx1 h => ?_)
 refine avb ?_
 refine brb h ?_ ?_<;>intro _ h
 ·refine plb ?_;refine call_sel (E := fun (x : Bool) => DV.one (D.b x)) h (fun x2 h1 => (i_IsSolved_ok N v0.mPuzzle v0.mFill h1)) (fun x2 hx2 h => ?_)
  refine avb ?_
  refine brb h ?_ ?_<;>intro _ h
  ·refine brb h ?_ ?_<;>intro _ h
   ·refine brb h ?_ ?_<;>intro _ h
    ·cases h;exact eq_by
    ·cases h;exact eq_by
   ·cases h;exact eq_by
  ·cases h;exact eq_by
 ·cases h;exact eq_by

theorem i_beforeUse_ok (N : Nat) (v0 : Gx.Used) (v1 : Gx.Used) {r : Bool} (h : i_beforeUse N v0 v1 = some r) : Pure Tryz.prog 131 [DV.agg (Gx.Used.enc v0), DV.agg (Gx.Used.enc v1)] (DV.one (D.b r)) := by
 refine pure_of_walk Tryz.tok Tryz.mixed Tryz.func131 (by kernel_rfl) fun W => ?_
 unfold i_beforeUse at h
 refine avb ?_
 refine brb h ?_ ?_<;>intro _ h
 ·cases h;exact eq_by
 ·refine plb ?_;refine call_sel (E := fun (x : Bool) => DV.one (D.b x)) h (fun x1 h1 => (i_BeforeWord_ok N v0.mWord v1.mWord h1)) (fun x1 hx1 h => ?_)
  refine avb ?_
  cases h;exact eq_by

theorem i_AreUses_ok (N : Nat) (v0 : List (Gx.Used)) {r : Bool} (h : i_AreUses N v0 = some r) : Pure Tryz.prog 58 [DV.one (D.sl 2 (List.map Gx.Used.enc v0))] (DV.one (D.b r)) := by
 refine pure_of_walk Tryz.tok Tryz.mixed Tryz.func58 (by kernel_rfl) fun W => ?_
 unfold i_AreUses at h
 refine avb ?_
 refine lns (v0.length : Int) ?_
 refine avb ?_
 refine br_sel h (fun _ h => ?_) (fun _ h => ?_)
 ·refine avb ?_
  cases h;exact eq_by
 ·refine ab0 ?_
  obtain ⟨zt8, h, gt8⟩ := cutb_some h
  refine W.r_cut (fun (t8 : Unit) => ⟨[], [], 1000⟩) (fun t => .nx t = zt8) ?_ ?_
  ·refine avb ?_
   refine lns (v0.length : Int) ?_
   refine avb ?_
   refine loop_lp (fun (p1 : Int) => ⟨[(0, .d (D.sl 2 (List.map Gx.Used.enc v0))), (8, .d (D.sl 2 (List.map Gx.Used.enc v0))), (9, .d (D.i (v0.length : Int))), (10, .d (D.i p1))], [], 1000⟩) h ?_ ?_
   ·exact weak_by
   intro np1 p1 yp1 h hfp1
   unfold i_AreUses_L1 at h
   refine avb ?_
   refine brb h ?_ ?_<;>intro _ h
   ·refine idx_sel h (fun x1 hx1 h => ?_)
    refine avb ?_
    refine brb h ?_ ?_<;>intro _ h
    ·refine idx_sel h (fun x2 hx2 h => ?_)
     refine avb ?_
     refine plb ?_;refine call_sel (E := fun (x : Bool) => DV.one (D.b x)) h (fun x3 h1 => (i_beforeUse_ok N x2 x1 h1)) (fun x3 hx3 h => ?_)
     refine avb ?_
     refine brb h ?_ ?_<;>intro _ h
     ·have h := finr hfp1 h
      have h := cutr gt8 h
      cases h;exact eq_by
     ·refine plb ?_;refine call_sel (E := fun (x : Bool) => DV.one (D.b x)) h (fun x4 h1 => (i_IsWord_ok N x1.mWord h1)) (fun x4 hx4 h => ?_)
      refine avb ?_
      refine brb h ?_ ?_<;>intro _ h
      ·have h := finr hfp1 h
       have h := cutr gt8 h
       cases h;exact eq_by
      ·refine plb ?_;refine call_sel (E := fun (x : Bool) => DV.one (D.b x)) h (fun x5 h1 => (i_InRange_ok N x1.mIssue 1 999 h1)) (fun x5 hx5 h => ?_)
       refine avb ?_
       refine brb h ?_ ?_<;>intro _ h
       ·have h := finr hfp1 h
        have h := cutr gt8 h
        cases h;exact eq_by
       ·exact lbk hfp1 h
    ·refine plb ?_;refine call_sel (E := fun (x : Bool) => DV.one (D.b x)) h (fun x6 h1 => (i_IsWord_ok N x1.mWord h1)) (fun x6 hx6 h => ?_)
     refine avb ?_
     refine brb h ?_ ?_<;>intro _ h
     ·have h := finr hfp1 h
      have h := cutr gt8 h
      cases h;exact eq_by
     ·refine plb ?_;refine call_sel (E := fun (x : Bool) => DV.one (D.b x)) h (fun x7 h1 => (i_InRange_ok N x1.mIssue 1 999 h1)) (fun x7 hx7 h => ?_)
      refine avb ?_
      refine brb h ?_ ?_<;>intro _ h
      ·have h := finr hfp1 h
       have h := cutr gt8 h
       cases h;exact eq_by
      ·exact lbk hfp1 h
   ·have h := finr hfp1 h
    refine cut_at (()) (some_in h) ?_
    exact weak_by
  rintro t8 rfl
  have h : _ = some _ := gt8
  refine avb ?_
  cases h;exact eq_by

theorem i_AreCorrections_ok (N : Nat) (v0 : List (Gx.Correction)) {r : Bool} (h : i_AreCorrections N v0 = some r) : Pure Tryz.prog 59 [DV.one (D.sl 5 (List.map Gx.Correction.enc v0))] (DV.one (D.b r)) := by
 refine pure_of_walk Tryz.tok Tryz.mixed Tryz.func59 (by kernel_rfl) fun W => ?_
 unfold i_AreCorrections at h
 refine avb ?_
 refine lns (v0.length : Int) ?_
 refine avb ?_
 refine br_sel h (fun _ h => ?_) (fun _ h => ?_)
 ·refine avb ?_
  cases h;exact eq_by
 ·refine ab0 ?_
  obtain ⟨zt7, h, gt7⟩ := cutb_some h
  refine W.r_cut (fun (t7 : Unit) => ⟨[], [], 1000⟩) (fun t => .nx t = zt7) ?_ ?_
  ·refine avb ?_
   refine lns (v0.length : Int) ?_
   refine avb ?_
   refine loop_lp (fun (p1 : Int) => ⟨[(0, .d (D.sl 5 (List.map Gx.Correction.enc v0))), (8, .d (D.sl 5 (List.map Gx.Correction.enc v0))), (9, .d (D.i (v0.length : Int))), (10, .d (D.i p1))], [], 1000⟩) h ?_ ?_
   ·exact weak_by
   intro np1 p1 yp1 h hfp1
   unfold i_AreCorrections_L1 at h
   refine avb ?_
   refine brb h ?_ ?_<;>intro _ h
   ·refine idx_sel h (fun x1 hx1 h => ?_)
    refine avb ?_
    refine plb ?_;refine call_sel (E := fun (x : Bool) => DV.one (D.b x)) h (fun x2 h1 => (i_InRange_ok N x1.mIssue 1 999 h1)) (fun x2 hx2 h => ?_)
    refine avb ?_
    refine brb h ?_ ?_<;>intro _ h
    ·have h := finr hfp1 h
     have h := cutr gt7 h
     cases h;exact eq_by
    ·refine plb ?_;refine call_sel (E := fun (x : Bool) => DV.one (D.b x)) h (fun x3 h1 => (i_InRange_ok N x1.mSlot 0 99 h1)) (fun x3 hx3 h => ?_)
     refine avb ?_
     refine brb h ?_ ?_<;>intro _ h
     ·have h := finr hfp1 h
      have h := cutr gt7 h
      cases h;exact eq_by
     ·refine plb ?_;refine call_sel (E := fun (x : Bool) => DV.one (D.b x)) h (fun x4 h1 => (i_IsClue_ok N x1.mClue h1)) (fun x4 hx4 h => ?_)
      refine avb ?_
      refine brb h ?_ ?_<;>intro _ h
      ·have h := finr hfp1 h
       have h := cutr gt7 h
       cases h;exact eq_by
      ·refine plb ?_;refine call_sel (E := fun (x : Bool) => DV.one (D.b x)) h (fun x5 h1 => (i_InRange_ok N x1.mTick 0 1000 h1)) (fun x5 hx5 h => ?_)
       refine avb ?_
       refine brb h ?_ ?_<;>intro _ h
       ·have h := finr hfp1 h
        have h := cutr gt7 h
        cases h;exact eq_by
       ·refine brb h ?_ ?_<;>intro _ h
        ·refine idx_sel h (fun x6 hx6 h => ?_)
         refine avb ?_
         refine brb h ?_ ?_<;>intro _ h
         ·have h := finr hfp1 h
          have h := cutr gt7 h
          cases h;exact eq_by
         ·exact lbk hfp1 h
        ·exact lbk hfp1 h
   ·have h := finr hfp1 h
    refine cut_at (()) (some_in h) ?_
    exact weak_by
  rintro t7 rfl
  have h : _ = some _ := gt7
  refine avb ?_
  cases h;exact eq_by

theorem i_copyClue_ok (N : Nat) (v0 : Gx.Clue) {r : Gx.Clue} (h : i_copyClue N v0 = some r) : Pure Tryz.prog 186 [DV.agg (Gx.Clue.enc v0)] (DV.agg (Gx.Clue.enc r)) := by
 refine pure_of_walk Tryz.tok Tryz.mixed Tryz.func186 (by kernel_rfl) fun W => ?_
 unfold i_copyClue at h
 refine avb ?_
 refine plb ?_;refine call_sel (E := fun (x : (List (Gx.Step))) => DV.one (D.sl 4 (List.map Gx.Step.enc x))) h (fun x1 h1 => (g_slices_Clone_Simpl_Step_impl_Step_ok N v0.mPlay h1)) (fun x1 hx1 h => ?_)
 refine avb ?_
 cases h;exact eq_by

theorem i_copyClues_ok (N : Nat) (v0 : List (Gx.Clue)) {r : (List (Gx.Clue))} (h : i_copyClues N v0 = some r) : Pure Tryz.prog 185 [DV.one (D.sl 2 (List.map Gx.Clue.enc v0))] (DV.one (D.sl 2 (List.map Gx.Clue.enc r))) := by
 refine pure_of_walk Tryz.tok Tryz.mixed Tryz.func185 (by kernel_rfl) fun W => ?_
 unfold i_copyClues at h
 refine ab0 ?_
 refine W.r_seq ?_
 refine ab0 ?_
 refine W.r_seq ?_
 refine ab0 ?_
 obtain ⟨zt3, h, gt3⟩ := bnd_some h
 refine W.r_cut (fun (t3 : (List (Gx.Clue))) => ⟨[(3, .sl 1)], [(1, some (.arr 2 (List.map Gx.Clue.enc t3) true))], 1000⟩) (fun t => t = zt3) ?_ ?_
 ·refine avb ?_
  refine lns (v0.length : Int) ?_
  refine avb ?_
  refine loop_lp (fun (p1 : (List (Gx.Clue)) × Int) => ⟨[(3, .sl 1), (6, .d (D.sl 2 (List.map Gx.Clue.enc v0))), (7, .d (D.i (v0.length : Int))), (8, .d (D.i p1.2))], [(1, some (.arr 2 (List.map Gx.Clue.enc p1.1) true))], 1000⟩) h ?_ ?_
  ·exact weak_by
  intro np1 p1 yp1 h hfp1
  unfold i_copyClues_L1 at h
  refine avb ?_
  refine brb h ?_ ?_<;>intro _ h
  ·refine idx_sel h (fun x1 hx1 h => ?_)
   refine avb ?_
   refine plb ?_;refine call_sel (E := fun (x : Gx.Clue) => DV.agg (Gx.Clue.enc x)) h (fun x2 h1 => (i_copyClue_ok N x1 h1)) (fun x2 hx2 h => ?_)
   refine avb ?_
   refine app_sel h (app_ok (by (first|rfl|simp [sub])) (by (first|rfl|simp [sub])) (by decide)) (by (intro h; cases h)) (fun h => ?_)
   refine avb ?_
   exact lbk hfp1 h
  ·have h := finr hfp1 h
   refine cut_at (p1.1) (some_in h) ?_
   exact weak_by
 rintro t3 rfl
 have h : _ = some _ := gt3
 refine avb ?_
 cases h;exact eq_by

theorem i_copyPuzzle_ok (N : Nat) (v0 : Gx.Puzzle) {r : Gx.Puzzle} (h : i_copyPuzzle N v0 = some r) : Pure Tryz.prog 156 [DV.agg (Gx.Puzzle.enc v0)] (DV.agg (Gx.Puzzle.enc r)) := by
 refine pure_of_walk Tryz.tok Tryz.mixed Tryz.func156 (by kernel_rfl) fun W => ?_
 unfold i_copyPuzzle at h
 refine avb ?_
 refine plb ?_;refine call_sel (E := fun (x : (List (Gx.Clue))) => DV.one (D.sl 2 (List.map Gx.Clue.enc x))) h (fun x1 h1 => (i_copyClues_ok N v0.mClues h1)) (fun x1 hx1 h => ?_)
 refine avb ?_
 refine plb ?_;refine call_sel (E := fun (x : (List (Int))) => DV.one (D.sl 1 (List.map Gx.encI x))) h (fun x2 h1 => (g_slices_Clone_Sint_int_ok N v0.mSeals h1)) (fun x2 hx2 h => ?_)
 refine avb ?_
 cases h;exact eq_by

theorem i_copyIssue_ok (N : Nat) (v0 : Gx.Issue) {r : Gx.Issue} (h : i_copyIssue N v0 = some r) : Pure Tryz.prog 98 [DV.agg (Gx.Issue.enc v0)] (DV.agg (Gx.Issue.enc r)) := by
 refine pure_of_walk Tryz.tok Tryz.mixed Tryz.func98 (by kernel_rfl) fun W => ?_
 unfold i_copyIssue at h
 refine avb ?_
 refine plb ?_;refine call_sel (E := fun (x : Gx.Puzzle) => DV.agg (Gx.Puzzle.enc x)) h (fun x1 h1 => (i_copyPuzzle_ok N v0.mPuzzle h1)) (fun x1 hx1 h => ?_)
 refine avb ?_
 cases h;exact eq_by

theorem i_IssueOf_ok (N : Nat) (v0 : Gx.House) (v1 : Int) {r : Gx.Issue × Bool} (h : i_IssueOf N v0 v1 = some r) : Pure Tryz.prog 37 [DV.agg (Gx.House.enc v0), DV.one (D.i v1)] (DV.tup [DV.agg (Gx.Issue.enc r.1), DV.one (D.b r.2)]) := by
 refine pure_of_walk Tryz.tok Tryz.mixed Tryz.func37 (by kernel_rfl) fun W => ?_
 unfold i_IssueOf at h
 refine ab0 ?_
 refine W.r_seq ?_
 refine ab0 ?_
 obtain ⟨zt3, h, gt3⟩ := cutb_some h
 refine W.r_cut (fun (t3 : Unit) => ⟨[(4, .ptr 1 0 0)], [(1, some (.box [.d (D.i ((⟨0, (⟨(⟨0, 0, ([] : List UInt8)⟩ : Gx.Grid), [], [], 0⟩ : Gx.Puzzle), ([] : List UInt8), 0, 0⟩ : Gx.Issue).mNumber)), .d (D.i ((((⟨0, (⟨(⟨0, 0, ([] : List UInt8)⟩ : Gx.Grid), [], [], 0⟩ : Gx.Puzzle), ([] : List UInt8), 0, 0⟩ : Gx.Issue).mPuzzle).mGrid).mRows)), .d (D.i ((((⟨0, (⟨(⟨0, 0, ([] : List UInt8)⟩ : Gx.Grid), [], [], 0⟩ : Gx.Puzzle), ([] : List UInt8), 0, 0⟩ : Gx.Issue).mPuzzle).mGrid).mCols)), .d (D.s ((((⟨0, (⟨(⟨0, 0, ([] : List UInt8)⟩ : Gx.Grid), [], [], 0⟩ : Gx.Puzzle), ([] : List UInt8), 0, 0⟩ : Gx.Issue).mPuzzle).mGrid).mCells)), .d (D.sl 2 (List.map Gx.Clue.enc (((⟨0, (⟨(⟨0, 0, ([] : List UInt8)⟩ : Gx.Grid), [], [], 0⟩ : Gx.Puzzle), ([] : List UInt8), 0, 0⟩ : Gx.Issue).mPuzzle).mClues))), .d (D.sl 1 (List.map Gx.encI (((⟨0, (⟨(⟨0, 0, ([] : List UInt8)⟩ : Gx.Grid), [], [], 0⟩ : Gx.Puzzle), ([] : List UInt8), 0, 0⟩ : Gx.Issue).mPuzzle).mSeals))), .d (D.i (((⟨0, (⟨(⟨0, 0, ([] : List UInt8)⟩ : Gx.Grid), [], [], 0⟩ : Gx.Puzzle), ([] : List UInt8), 0, 0⟩ : Gx.Issue).mPuzzle).mSalt)), .d (D.s ((⟨0, (⟨(⟨0, 0, ([] : List UInt8)⟩ : Gx.Grid), [], [], 0⟩ : Gx.Puzzle), ([] : List UInt8), 0, 0⟩ : Gx.Issue).mFill)), .d (D.i ((⟨0, (⟨(⟨0, 0, ([] : List UInt8)⟩ : Gx.Grid), [], [], 0⟩ : Gx.Puzzle), ([] : List UInt8), 0, 0⟩ : Gx.Issue).mOpen)), .d (D.i ((⟨0, (⟨(⟨0, 0, ([] : List UInt8)⟩ : Gx.Grid), [], [], 0⟩ : Gx.Puzzle), ([] : List UInt8), 0, 0⟩ : Gx.Issue).mClose))]))], 1000⟩) (fun t => .nx t = zt3) ?_ ?_
 ·refine avb ?_
  refine lns (v0.mIssues.length : Int) ?_
  refine avb ?_
  refine loop_lp (fun (p1 : Int) => ⟨[(1, .d (D.i v1)), (4, .ptr 1 0 0), (9, .d (D.sl 10 (List.map Gx.Issue.enc v0.mIssues))), (10, .d (D.i (v0.mIssues.length : Int))), (11, .d (D.i p1))], [(1, some (.box [.d (D.i ((⟨0, (⟨(⟨0, 0, ([] : List UInt8)⟩ : Gx.Grid), [], [], 0⟩ : Gx.Puzzle), ([] : List UInt8), 0, 0⟩ : Gx.Issue).mNumber)), .d (D.i ((((⟨0, (⟨(⟨0, 0, ([] : List UInt8)⟩ : Gx.Grid), [], [], 0⟩ : Gx.Puzzle), ([] : List UInt8), 0, 0⟩ : Gx.Issue).mPuzzle).mGrid).mRows)), .d (D.i ((((⟨0, (⟨(⟨0, 0, ([] : List UInt8)⟩ : Gx.Grid), [], [], 0⟩ : Gx.Puzzle), ([] : List UInt8), 0, 0⟩ : Gx.Issue).mPuzzle).mGrid).mCols)), .d (D.s ((((⟨0, (⟨(⟨0, 0, ([] : List UInt8)⟩ : Gx.Grid), [], [], 0⟩ : Gx.Puzzle), ([] : List UInt8), 0, 0⟩ : Gx.Issue).mPuzzle).mGrid).mCells)), .d (D.sl 2 (List.map Gx.Clue.enc (((⟨0, (⟨(⟨0, 0, ([] : List UInt8)⟩ : Gx.Grid), [], [], 0⟩ : Gx.Puzzle), ([] : List UInt8), 0, 0⟩ : Gx.Issue).mPuzzle).mClues))), .d (D.sl 1 (List.map Gx.encI (((⟨0, (⟨(⟨0, 0, ([] : List UInt8)⟩ : Gx.Grid), [], [], 0⟩ : Gx.Puzzle), ([] : List UInt8), 0, 0⟩ : Gx.Issue).mPuzzle).mSeals))), .d (D.i (((⟨0, (⟨(⟨0, 0, ([] : List UInt8)⟩ : Gx.Grid), [], [], 0⟩ : Gx.Puzzle), ([] : List UInt8), 0, 0⟩ : Gx.Issue).mPuzzle).mSalt)), .d (D.s ((⟨0, (⟨(⟨0, 0, ([] : List UInt8)⟩ : Gx.Grid), [], [], 0⟩ : Gx.Puzzle), ([] : List UInt8), 0, 0⟩ : Gx.Issue).mFill)), .d (D.i ((⟨0, (⟨(⟨0, 0, ([] : List UInt8)⟩ : Gx.Grid), [], [], 0⟩ : Gx.Puzzle), ([] : List UInt8), 0, 0⟩ : Gx.Issue).mOpen)), .d (D.i ((⟨0, (⟨(⟨0, 0, ([] : List UInt8)⟩ : Gx.Grid), [], [], 0⟩ : Gx.Puzzle), ([] : List UInt8), 0, 0⟩ : Gx.Issue).mClose))]))], 1000⟩) h ?_ ?_
  ·exact weak_by
  intro np1 p1 yp1 h hfp1
  unfold i_IssueOf_L1 at h
  refine avb ?_
  refine brb h ?_ ?_<;>intro _ h
  ·refine idx_sel h (fun x1 hx1 h => ?_)
   refine avb ?_
   refine brb h ?_ ?_<;>intro _ h
   ·refine plb ?_;refine call_sel (E := fun (x : Gx.Issue) => DV.agg (Gx.Issue.enc x)) h (fun x2 h1 => (i_copyIssue_ok N x1 h1)) (fun x2 hx2 h => ?_)
    refine avb ?_
    have h := finr hfp1 h
    have h := cutr gt3 h
    cases h;exact eq_by
   ·exact lbk hfp1 h
  ·have h := finr hfp1 h
   refine cut_at (()) (some_in h) ?_
   exact weak_by
 rintro t3 rfl
 have h : _ = some _ := gt3
 refine avb ?_
 cases h;exact eq_by

theorem i_IsOpen_ok (N : Nat) (v0 : Gx.Issue) (v1 : Int) {r : Bool} (h : i_IsOpen N v0 v1 = some r) : Pure Tryz.prog 132 [DV.agg (Gx.Issue.enc v0), DV.one (D.i v1)] (DV.one (D.b r)) := by
 refine pure_of_walk Tryz.tok Tryz.mixed Tryz.func132 (by kernel_rfl) fun W => ?_
 unfold i_IsOpen at h
 refine avb ?_
 refine brb h ?_ ?_<;>intro _ h
 ·cases h;exact eq_by
 ·cases h;exact eq_by

theorem i_IsEntry_ok (N : Nat) (v0 : Gx.Entry) (v1 : Gx.Issue) {r : Bool} (h : i_IsEntry N v0 v1 = some r) : Pure Tryz.prog 62 [DV.agg (Gx.Entry.enc v0), DV.agg (Gx.Issue.enc v1)] (DV.one (D.b r)) := by
 refine pure_of_walk Tryz.tok Tryz.mixed Tryz.func62 (by kernel_rfl) fun W => ?_
 unfold i_IsEntry at h
 refine avb ?_
 refine plb ?_;refine call_sel (E := fun (x : Bool) => DV.one (D.b x)) h (fun x1 h1 => (i_InRange_ok N v0.mPlayer 1 99 h1)) (fun x1 hx1 h => ?_)
 refine avb ?_
 refine brb h ?_ ?_<;>intro _ h
 ·refine brb h ?_ ?_<;>intro _ h
  ·refine plb ?_;refine call_sel (E := fun (x : Bool) => DV.one (D.b x)) h (fun x2 h1 => (i_IsIssue_ok N v1 h1)) (fun x2 hx2 h => ?_)
   refine avb ?_
   refine brb h ?_ ?_<;>intro _ h
   ·refine plb ?_;refine call_sel (E := fun (x : Bool) => DV.one (D.b x)) h (fun x3 h1 => (i_IsOpen_ok N v1 v0.mTick h1)) (fun x3 hx3 h => ?_)
    refine avb ?_
    refine brb h ?_ ?_<;>intro _ h
    ·refine plb ?_;refine call_sel (E := fun (x : Bool) => DV.one (D.b x)) h (fun x4 h1 => (i_IsFill_ok N v1.mPuzzle.mGrid v0.mFill h1)) (fun x4 hx4 h => ?_)
     refine avb ?_
     cases h;exact eq_by
    ·cases h;exact eq_by
   ·cases h;exact eq_by
  ·cases h;exact eq_by
 ·cases h;exact eq_by

theorem i_IsHouse_ok (N : Nat) (v0 : Gx.House) {r : Bool} (h : i_IsHouse N v0 = some r) : Pure Tryz.prog 15 [DV.agg (Gx.House.enc v0)] (DV.one (D.b r)) := by
 refine pure_of_walk Tryz.tok Tryz.mixed Tryz.func15 (by kernel_rfl) fun W => ?_
 unfold i_IsHouse at h
 refine ab0 ?_
 refine W.r_seq ?_
 refine ab0 ?_
 obtain ⟨zt5, h, gt5⟩ := cutb_some h
 refine W.r_cut (fun (t5 : Unit) => ⟨[(1, .ptr 1 0 0)], [(1, some (.box [.d (D.sl 4 (List.map Gx.Listed.enc v0.mList)), .d (D.sl 2 (List.map Gx.Meaning.enc v0.mDict)), .d (D.i v0.mDesk.mGrid.mRows), .d (D.i v0.mDesk.mGrid.mCols), .d (D.s v0.mDesk.mGrid.mCells), .d (D.s v0.mDesk.mFill), .d (D.sl 2 (List.map Gx.Clue.enc v0.mDesk.mClues)), .d (D.i v0.mDesk.mVersion), .d (D.sl 10 (List.map Gx.Issue.enc v0.mIssues)), .d (D.sl 2 (List.map Gx.Used.enc v0.mUses)), .d (D.sl 5 (List.map Gx.Correction.enc v0.mCorrections)), .d (D.sl 4 (List.map Gx.Entry.enc v0.mEntries)), .d (D.i v0.mNow)]))], 1000⟩) (fun t => .nx t = zt5) ?_ ?_
 ·refine avb ?_
  refine plb ?_;refine call_sel (E := fun (x : Bool) => DV.one (D.b x)) h (fun x1 h1 => (i_IsList_ok N v0.mList h1)) (fun x1 hx1 h => ?_)
  refine avb ?_
  refine brb h ?_ ?_<;>intro _ h
  ·have h := cutr gt5 h
   cases h;exact eq_by
  ·refine plb ?_;refine call_sel (E := fun (x : Bool) => DV.one (D.b x)) h (fun x2 h1 => (i_IsDictionary_ok N v0.mDict h1)) (fun x2 hx2 h => ?_)
   refine avb ?_
   refine brb h ?_ ?_<;>intro _ h
   ·have h := cutr gt5 h
    cases h;exact eq_by
   ·refine plb ?_;refine call_sel (E := fun (x : Bool) => DV.one (D.b x)) h (fun x3 h1 => (i_EqualDrafts_ok N v0.mDesk (⟨(⟨0, 0, ([] : List UInt8)⟩ : Gx.Grid), ([] : List UInt8), [], 0⟩ : Gx.Draft) h1)) (fun x3 hx3 h => ?_)
    refine avb ?_
    refine brb h ?_ ?_<;>intro _ h
    ·refine plb ?_;refine call_sel (E := fun (x : Bool) => DV.one (D.b x)) h (fun x4 h1 => (i_IsDraft_ok N v0.mDesk h1)) (fun x4 hx4 h => ?_)
     refine avb ?_
     refine brb h ?_ ?_<;>intro _ h
     ·have h := cutr gt5 h
      cases h;exact eq_by
     ·refine lns (v0.mIssues.length : Int) ?_
      refine avb ?_
      refine brb h ?_ ?_<;>intro _ h
      ·have h := cutr gt5 h
       cases h;exact eq_by
      ·refine cut_at (()) (some_in h) ?_
       exact weak_by
    ·refine lns (v0.mIssues.length : Int) ?_
     refine avb ?_
     refine brb h ?_ ?_<;>intro _ h
     ·have h := cutr gt5 h
      cases h;exact eq_by
     ·refine cut_at (()) (some_in h) ?_
      exact weak_by
 rintro t5 rfl
 have h : _ = some _ := gt5
 refine ab0 ?_
 obtain ⟨zt8, h, gt8⟩ := cutb_some h
 refine W.r_cut (fun (t8 : Unit) => ⟨[(1, .ptr 1 0 0)], [(1, some (.box [.d (D.sl 4 (List.map Gx.Listed.enc v0.mList)), .d (D.sl 2 (List.map Gx.Meaning.enc v0.mDict)), .d (D.i v0.mDesk.mGrid.mRows), .d (D.i v0.mDesk.mGrid.mCols), .d (D.s v0.mDesk.mGrid.mCells), .d (D.s v0.mDesk.mFill), .d (D.sl 2 (List.map Gx.Clue.enc v0.mDesk.mClues)), .d (D.i v0.mDesk.mVersion), .d (D.sl 10 (List.map Gx.Issue.enc v0.mIssues)), .d (D.sl 2 (List.map Gx.Used.enc v0.mUses)), .d (D.sl 5 (List.map Gx.Correction.enc v0.mCorrections)), .d (D.sl 4 (List.map Gx.Entry.enc v0.mEntries)), .d (D.i v0.mNow)]))], 1000⟩) (fun t => .nx t = zt8) ?_ ?_
 ·refine avb ?_
  refine lns (v0.mIssues.length : Int) ?_
  refine avb ?_
  refine loop_lp (fun (p1 : Int) => ⟨[(1, .ptr 1 0 0), (43, .d (D.sl 10 (List.map Gx.Issue.enc v0.mIssues))), (44, .d (D.i (v0.mIssues.length : Int))), (45, .d (D.i p1))], [(1, some (.box [.d (D.sl 4 (List.map Gx.Listed.enc v0.mList)), .d (D.sl 2 (List.map Gx.Meaning.enc v0.mDict)), .d (D.i v0.mDesk.mGrid.mRows), .d (D.i v0.mDesk.mGrid.mCols), .d (D.s v0.mDesk.mGrid.mCells), .d (D.s v0.mDesk.mFill), .d (D.sl 2 (List.map Gx.Clue.enc v0.mDesk.mClues)), .d (D.i v0.mDesk.mVersion), .d (D.sl 10 (List.map Gx.Issue.enc v0.mIssues)), .d (D.sl 2 (List.map Gx.Used.enc v0.mUses)), .d (D.sl 5 (List.map Gx.Correction.enc v0.mCorrections)), .d (D.sl 4 (List.map Gx.Entry.enc v0.mEntries)), .d (D.i v0.mNow)]))], 1000⟩) h ?_ ?_
  ·exact weak_by
  intro np1 p1 yp1 h hfp1
  unfold i_IsHouse_L1 at h
  refine avb ?_
  refine brb h ?_ ?_<;>intro _ h
  ·refine idx_sel h (fun x6 hx6 h => ?_)
   refine avb ?_
   refine plb ?_;refine call_sel (E := fun (x : Bool) => DV.one (D.b x)) h (fun x7 h1 => (i_IsIssue_ok N x6 h1)) (fun x7 hx7 h => ?_)
   refine avb ?_
   refine brb h ?_ ?_<;>intro _ h
   ·have h := finr hfp1 h
    have h := cutr gt8 h
    cases h;exact eq_by
   ·refine brb h ?_ ?_<;>intro _ h
    ·have h := finr hfp1 h
     have h := cutr gt8 h
     cases h;exact eq_by
    ·exact lbk hfp1 h
  ·have h := finr hfp1 h
   refine cut_at (()) (some_in h) ?_
   exact weak_by
 rintro t8 rfl
 have h : _ = some _ := gt8
 refine avb ?_
 refine plb ?_;refine call_sel (E := fun (x : Bool) => DV.one (D.b x)) h (fun x9 h1 => (i_AreUses_ok N v0.mUses h1)) (fun x9 hx9 h => ?_)
 refine avb ?_
 refine brb h ?_ ?_<;>intro _ h
 ·cases h;exact eq_by
 ·refine plb ?_;refine call_sel (E := fun (x : Bool) => DV.one (D.b x)) h (fun x10 h1 => (i_AreCorrections_ok N v0.mCorrections h1)) (fun x10 hx10 h => ?_)
  refine avb ?_
  refine brb h ?_ ?_<;>intro _ h
  ·cases h;exact eq_by
  ·refine lns (v0.mEntries.length : Int) ?_
   refine avb ?_
   refine brb h ?_ ?_<;>intro _ h
   ·cases h;exact eq_by
   ·refine plb ?_;refine call_sel (E := fun (x : Bool) => DV.one (D.b x)) h (fun x11 h1 => (i_InRange_ok N v0.mNow 0 1000 h1)) (fun x11 hx11 h => ?_)
    refine avb ?_
    refine br_sel h (fun _ h => ?_) (fun _ h => ?_)
    ·refine avb ?_
     cases h;exact eq_by
    ·refine ab0 ?_
     obtain ⟨zt15, h, gt15⟩ := cutb_some h
     refine W.r_cut (fun (t15 : Unit) => ⟨[(1, .ptr 1 0 0)], [(1, some (.box [.d (D.sl 4 (List.map Gx.Listed.enc v0.mList)), .d (D.sl 2 (List.map Gx.Meaning.enc v0.mDict)), .d (D.i v0.mDesk.mGrid.mRows), .d (D.i v0.mDesk.mGrid.mCols), .d (D.s v0.mDesk.mGrid.mCells), .d (D.s v0.mDesk.mFill), .d (D.sl 2 (List.map Gx.Clue.enc v0.mDesk.mClues)), .d (D.i v0.mDesk.mVersion), .d (D.sl 10 (List.map Gx.Issue.enc v0.mIssues)), .d (D.sl 2 (List.map Gx.Used.enc v0.mUses)), .d (D.sl 5 (List.map Gx.Correction.enc v0.mCorrections)), .d (D.sl 4 (List.map Gx.Entry.enc v0.mEntries)), .d (D.i v0.mNow)]))], 1000⟩) (fun t => .nx t = zt15) ?_ ?_
     ·refine avb ?_
      refine lns (v0.mCorrections.length : Int) ?_
      refine avb ?_
      refine loop_lp (fun (p2 : Int) => ⟨[(1, .ptr 1 0 0), (84, .d (D.sl 5 (List.map Gx.Correction.enc v0.mCorrections))), (85, .d (D.i (v0.mCorrections.length : Int))), (86, .d (D.i p2))], [(1, some (.box [.d (D.sl 4 (List.map Gx.Listed.enc v0.mList)), .d (D.sl 2 (List.map Gx.Meaning.enc v0.mDict)), .d (D.i v0.mDesk.mGrid.mRows), .d (D.i v0.mDesk.mGrid.mCols), .d (D.s v0.mDesk.mGrid.mCells), .d (D.s v0.mDesk.mFill), .d (D.sl 2 (List.map Gx.Clue.enc v0.mDesk.mClues)), .d (D.i v0.mDesk.mVersion), .d (D.sl 10 (List.map Gx.Issue.enc v0.mIssues)), .d (D.sl 2 (List.map Gx.Used.enc v0.mUses)), .d (D.sl 5 (List.map Gx.Correction.enc v0.mCorrections)), .d (D.sl 4 (List.map Gx.Entry.enc v0.mEntries)), .d (D.i v0.mNow)]))], 1000⟩) h ?_ ?_
      ·exact weak_by
      intro np2 p2 yp2 h hfp2
      unfold i_IsHouse_L2 at h
      refine avb ?_
      refine brb h ?_ ?_<;>intro _ h
      ·refine idx_sel h (fun x12 hx12 h => ?_)
       refine avb ?_
       refine plb ?_;refine call_sel (E := fun (x : Gx.Issue × Bool) => DV.tup [DV.agg (Gx.Issue.enc x.1), DV.one (D.b x.2)]) h (fun x13 h1 => (i_IssueOf_ok N v0 x12.mIssue h1)) (fun x13 hx13 h => ?_)
       refine avb ?_
       refine brb h ?_ ?_<;>intro _ h
       ·have h := finr hfp2 h
        have h := cutr gt15 h
        cases h;exact eq_by
       ·refine lns (x13.1.mPuzzle.mClues.length : Int) ?_
        refine avb ?_
        refine plb ?_;refine call_sel (E := fun (x : Bool) => DV.one (D.b x)) h (fun x14 h1 => (i_at_ok N x12.mSlot (x13.1.mPuzzle.mClues.length : Int) h1)) (fun x14 hx14 h => ?_)
        refine avb ?_
        refine brb h ?_ ?_<;>intro _ h
        ·have h := finr hfp2 h
         have h := cutr gt15 h
         cases h;exact eq_by
        ·refine brb h ?_ ?_<;>intro _ h
         ·have h := finr hfp2 h
          have h := cutr gt15 h
          cases h;exact eq_by
         ·exact lbk hfp2 h
      ·have h := finr hfp2 h
       refine cut_at (()) (some_in h) ?_
       exact weak_by
     rintro t15 rfl
     have h : _ = some _ := gt15
     refine ab0 ?_
     obtain ⟨zt19, h, gt19⟩ := cutb_some h
     refine W.r_cut (fun (t19 : Unit) => ⟨[], [], 1000⟩) (fun t => .nx t = zt19) ?_ ?_
     ·refine avb ?_
      refine lns (v0.mEntries.length : Int) ?_
      refine avb ?_
      refine loop_lp (fun (p3 : Int) => ⟨[(1, .ptr 1 0 0), (118, .d (D.sl 4 (List.map Gx.Entry.enc v0.mEntries))), (119, .d (D.i (v0.mEntries.length : Int))), (120, .d (D.i p3))], [(1, some (.box [.d (D.sl 4 (List.map Gx.Listed.enc v0.mList)), .d (D.sl 2 (List.map Gx.Meaning.enc v0.mDict)), .d (D.i v0.mDesk.mGrid.mRows), .d (D.i v0.mDesk.mGrid.mCols), .d (D.s v0.mDesk.mGrid.mCells), .d (D.s v0.mDesk.mFill), .d (D.sl 2 (List.map Gx.Clue.enc v0.mDesk.mClues)), .d (D.i v0.mDesk.mVersion), .d (D.sl 10 (List.map Gx.Issue.enc v0.mIssues)), .d (D.sl 2 (List.map Gx.Used.enc v0.mUses)), .d (D.sl 5 (List.map Gx.Correction.enc v0.mCorrections)), .d (D.sl 4 (List.map Gx.Entry.enc v0.mEntries)), .d (D.i v0.mNow)]))], 1000⟩) h ?_ ?_
      ·exact weak_by
      intro np3 p3 yp3 h hfp3
      unfold i_IsHouse_L3 at h
      refine avb ?_
      refine brb h ?_ ?_<;>intro _ h
      ·refine idx_sel h (fun x16 hx16 h => ?_)
       refine avb ?_
       refine plb ?_;refine call_sel (E := fun (x : Gx.Issue × Bool) => DV.tup [DV.agg (Gx.Issue.enc x.1), DV.one (D.b x.2)]) h (fun x17 h1 => (i_IssueOf_ok N v0 x16.mIssue h1)) (fun x17 hx17 h => ?_)
       refine avb ?_
       refine brb h ?_ ?_<;>intro _ h
       ·have h := finr hfp3 h
        have h := cutr gt19 h
        cases h;exact eq_by
       ·refine plb ?_;refine call_sel (E := fun (x : Bool) => DV.one (D.b x)) h (fun x18 h1 => (i_IsEntry_ok N x16 x17.1 h1)) (fun x18 hx18 h => ?_)
        refine avb ?_
        refine brb h ?_ ?_<;>intro _ h
        ·have h := finr hfp3 h
         have h := cutr gt19 h
         cases h;exact eq_by
        ·refine brb h ?_ ?_<;>intro _ h
         ·have h := finr hfp3 h
          have h := cutr gt19 h
          cases h;exact eq_by
         ·exact lbk hfp3 h
      ·have h := finr hfp3 h
       refine cut_at (()) (some_in h) ?_
       exact weak_by
     rintro t19 rfl
     have h : _ = some _ := gt19
     refine avb ?_
     cases h;exact eq_by

theorem l_eqListed_ok (N : Nat) (v0 : Gx.Listed) (v1 : Gx.Listed) {r : Bool} (h : l_eqListed N v0 v1 = some r) : Pure Tryz.prog 100 [DV.agg (Gx.Listed.enc v0), DV.agg (Gx.Listed.enc v1)] (DV.one (D.b r)) := by
 refine pure_of_walk Tryz.tok Tryz.mixed Tryz.func100 (by kernel_rfl) fun W => ?_
 unfold l_eqListed at h
 refine avb ?_
 refine brb h ?_ ?_<;>intro _ h
 ·cases h;exact eq_by
 ·refine brb h ?_ ?_<;>intro _ h
  ·cases h;exact eq_by
  ·refine brb h ?_ ?_<;>intro _ h
   ·cases h;exact eq_by
   ·refine brb h ?_ ?_<;>intro _ h
    ·cases h;exact eq_by
    ·cases h;exact eq_by

theorem l_eqListedS_ok (N : Nat) (v0 : List (Gx.Listed)) (v1 : List (Gx.Listed)) {r : Bool} (h : l_eqListedS N v0 v1 = some r) : Pure Tryz.prog 39 [DV.one (D.sl 4 (List.map Gx.Listed.enc v0)), DV.one (D.sl 4 (List.map Gx.Listed.enc v1))] (DV.one (D.b r)) := by
 refine pure_of_walk Tryz.tok Tryz.mixed Tryz.func39 (by kernel_rfl) fun W => ?_
 unfold l_eqListedS at h
 refine avb ?_
 refine lns (v0.length : Int) ?_
 refine avb ?_
 refine lns (v1.length : Int) ?_
 refine avb ?_
 refine br_sel h (fun _ h => ?_) (fun _ h => ?_)
 ·refine avb ?_
  cases h;exact eq_by
 ·refine ab0 ?_
  obtain ⟨zt4, h, gt4⟩ := cutb_some h
  refine W.r_cut (fun (t4 : Unit) => ⟨[], [], 1000⟩) (fun t => .nx t = zt4) ?_ ?_
  ·refine avb ?_
   refine loop_lp (fun (p1 : Int) => ⟨[(0, .d (D.sl 4 (List.map Gx.Listed.enc v0))), (1, .d (D.sl 4 (List.map Gx.Listed.enc v1))), (5, .d (D.i p1))], [], 1000⟩) h ?_ ?_
   ·exact weak_by
   intro np1 p1 yp1 h hfp1
   unfold l_eqListedS_L1 at h
   refine avb ?_
   refine lns (v0.length : Int) ?_
   refine avb ?_
   refine brb h ?_ ?_<;>intro _ h
   ·refine idx_sel h (fun x1 hx1 h => ?_)
    refine avb ?_
    refine idx_sel h (fun x2 hx2 h => ?_)
    refine avb ?_
    refine plb ?_;refine call_sel (E := fun (x : Bool) => DV.one (D.b x)) h (fun x3 h1 => (l_eqListed_ok N x1 x2 h1)) (fun x3 hx3 h => ?_)
    refine avb ?_
    refine brb h ?_ ?_<;>intro _ h
    ·have h := finr hfp1 h
     have h := cutr gt4 h
     cases h;exact eq_by
    ·exact lbk hfp1 h
   ·have h := finr hfp1 h
    refine cut_at (()) (some_in h) ?_
    exact weak_by
  rintro t4 rfl
  have h : _ = some _ := gt4
  refine avb ?_
  cases h;exact eq_by

theorem l_eqMeaning_ok (N : Nat) (v0 : Gx.Meaning) (v1 : Gx.Meaning) {r : Bool} (h : l_eqMeaning N v0 v1 = some r) : Pure Tryz.prog 101 [DV.agg (Gx.Meaning.enc v0), DV.agg (Gx.Meaning.enc v1)] (DV.one (D.b r)) := by
 refine pure_of_walk Tryz.tok Tryz.mixed Tryz.func101 (by kernel_rfl) fun W => ?_
 unfold l_eqMeaning at h
 refine avb ?_
 refine brb h ?_ ?_<;>intro _ h
 ·cases h;exact eq_by
 ·refine brb h ?_ ?_<;>intro _ h
  ·cases h;exact eq_by
  ·cases h;exact eq_by

theorem l_eqMeaningS_ok (N : Nat) (v0 : List (Gx.Meaning)) (v1 : List (Gx.Meaning)) {r : Bool} (h : l_eqMeaningS N v0 v1 = some r) : Pure Tryz.prog 40 [DV.one (D.sl 2 (List.map Gx.Meaning.enc v0)), DV.one (D.sl 2 (List.map Gx.Meaning.enc v1))] (DV.one (D.b r)) := by
 refine pure_of_walk Tryz.tok Tryz.mixed Tryz.func40 (by kernel_rfl) fun W => ?_
 unfold l_eqMeaningS at h
 refine avb ?_
 refine lns (v0.length : Int) ?_
 refine avb ?_
 refine lns (v1.length : Int) ?_
 refine avb ?_
 refine br_sel h (fun _ h => ?_) (fun _ h => ?_)
 ·refine avb ?_
  cases h;exact eq_by
 ·refine ab0 ?_
  obtain ⟨zt4, h, gt4⟩ := cutb_some h
  refine W.r_cut (fun (t4 : Unit) => ⟨[], [], 1000⟩) (fun t => .nx t = zt4) ?_ ?_
  ·refine avb ?_
   refine loop_lp (fun (p1 : Int) => ⟨[(0, .d (D.sl 2 (List.map Gx.Meaning.enc v0))), (1, .d (D.sl 2 (List.map Gx.Meaning.enc v1))), (5, .d (D.i p1))], [], 1000⟩) h ?_ ?_
   ·exact weak_by
   intro np1 p1 yp1 h hfp1
   unfold l_eqMeaningS_L1 at h
   refine avb ?_
   refine lns (v0.length : Int) ?_
   refine avb ?_
   refine brb h ?_ ?_<;>intro _ h
   ·refine idx_sel h (fun x1 hx1 h => ?_)
    refine avb ?_
    refine idx_sel h (fun x2 hx2 h => ?_)
    refine avb ?_
    refine plb ?_;refine call_sel (E := fun (x : Bool) => DV.one (D.b x)) h (fun x3 h1 => (l_eqMeaning_ok N x1 x2 h1)) (fun x3 hx3 h => ?_)
    refine avb ?_
    refine brb h ?_ ?_<;>intro _ h
    ·have h := finr hfp1 h
     have h := cutr gt4 h
     cases h;exact eq_by
    ·exact lbk hfp1 h
   ·have h := finr hfp1 h
    refine cut_at (()) (some_in h) ?_
    exact weak_by
  rintro t4 rfl
  have h : _ = some _ := gt4
  refine avb ?_
  cases h;exact eq_by

theorem l_eqGrid_ok (N : Nat) (v0 : Gx.Grid) (v1 : Gx.Grid) {r : Bool} (h : l_eqGrid N v0 v1 = some r) : Pure Tryz.prog 102 [DV.agg (Gx.Grid.enc v0), DV.agg (Gx.Grid.enc v1)] (DV.one (D.b r)) := by
 refine pure_of_walk Tryz.tok Tryz.mixed Tryz.func102 (by kernel_rfl) fun W => ?_
 unfold l_eqGrid at h
 refine avb ?_
 refine brb h ?_ ?_<;>intro _ h
 ·cases h;exact eq_by
 ·refine brb h ?_ ?_<;>intro _ h
  ·cases h;exact eq_by
  ·refine brb h ?_ ?_<;>intro _ h
   ·cases h;exact eq_by
   ·cases h;exact eq_by

theorem l_eqStep_ok (N : Nat) (v0 : Gx.Step) (v1 : Gx.Step) {r : Bool} (h : l_eqStep N v0 v1 = some r) : Pure Tryz.prog 221 [DV.agg (Gx.Step.enc v0), DV.agg (Gx.Step.enc v1)] (DV.one (D.b r)) := by
 refine pure_of_walk Tryz.tok Tryz.mixed Tryz.func221 (by kernel_rfl) fun W => ?_
 unfold l_eqStep at h
 refine avb ?_
 refine brb h ?_ ?_<;>intro _ h
 ·cases h;exact eq_by
 ·refine brb h ?_ ?_<;>intro _ h
  ·cases h;exact eq_by
  ·refine brb h ?_ ?_<;>intro _ h
   ·cases h;exact eq_by
   ·refine brb h ?_ ?_<;>intro _ h
    ·cases h;exact eq_by
    ·cases h;exact eq_by

end Lw
end Go.Proofs
