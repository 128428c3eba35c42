/- PRINTED BY gen.py (mine): their contracts. -/
import Derived.Test.YtniibgdokfnomaaGreatDoorAvPfStepDesk1
namespace Go.Proofs
open Go Go.Av
set_option maxRecDepth 100000
set_option maxHeartbeats 40000000
set_option linter.unusedVariables false
set_option linter.unusedSimpArgs false
namespace Lw
theorem s_l1In_ok (N : Nat) (v0 : Int) (v1 : Int) (v2 : Int) {r : Bool} (h : s_l1In N v0 v1 v2 = some r) : Pure Tryz.prog 113 [DV.one (D.i v0), DV.one (D.i v1), DV.one (D.i v2)] (DV.one (D.b r)) := by
 refine pure_of_walk Tryz.tok Tryz.mixed Tryz.func113 (by kernel_rfl) fun W => ?_
 unfold s_l1In at h
 refine avb ?_
 refine brb h ?_ ?_<;>intro _ h
 ·cases h;exact eq_by
 ·cases h;exact eq_by

theorem s_IsGrid_ok (N : Nat) (v0 : Gx.Grid) {r : Bool} (h : s_IsGrid N v0 = some r) : Pure Tryz.prog 69 [DV.agg (Gx.Grid.enc v0)] (DV.one (D.b r)) := by
 refine pure_of_walk Tryz.tok Tryz.mixed Tryz.func69 (by kernel_rfl) fun W => ?_
 unfold s_IsGrid at h
 refine avb ?_
 refine plb ?_;refine call_sel (E := fun (x : Bool) => DV.one (D.b x)) h (fun x1 h1 => (s_l1In_ok N v0.mRows 2 6 h1)) (fun x1 hx1 h => ?_)
 refine avb ?_
 refine brb h ?_ ?_<;>intro _ h
 ·cases h;exact eq_by
 ·refine plb ?_;refine call_sel (E := fun (x : Bool) => DV.one (D.b x)) h (fun x2 h1 => (s_l1In_ok N v0.mCols 2 6 h1)) (fun x2 hx2 h => ?_)
  refine avb ?_
  refine brb h ?_ ?_<;>intro _ h
  ·cases h;exact eq_by
  ·refine lns (v0.mCells.length : Int) ?_
   refine avb ?_
   refine br_sel h (fun _ h => ?_) (fun _ h => ?_)
   ·refine avb ?_
    cases h;exact eq_by
   ·refine ab0 ?_
    obtain ⟨zt3, h, gt3⟩ := cutb_some h
    refine W.r_cut (fun (t3 : Unit) => ⟨[], [], 1000⟩) (fun t => .nx t = zt3) ?_ ?_
    ·refine avb ?_
     refine loop_lp (fun (p1 : Int) => ⟨[(1, .ptr 1 0 0), (3, .d (D.i p1))], [(1, some (.box [.d (D.i v0.mRows), .d (D.i v0.mCols), .d (D.s v0.mCells)]))], 1000⟩) h ?_ ?_
     ·exact weak_by
     intro np1 p1 yp1 h hfp1
     unfold s_IsGrid_L1 at h
     refine avb ?_
     refine lns (v0.mCells.length : Int) ?_
     refine avb ?_
     refine brb h ?_ ?_<;>intro _ h
     ·refine chk_sel h (fun q => q) (fun h => ?_)
      refine avb ?_
      refine brb h ?_ ?_<;>intro _ h
      ·refine chk_sel h (fun q => q) (fun h => ?_)
       refine avb ?_
       refine brb h ?_ ?_<;>intro _ h
       ·have h := finr hfp1 h
        have h := cutr gt3 h
        cases h;exact eq_by
       ·exact lbk hfp1 h
      ·exact lbk hfp1 h
     ·have h := finr hfp1 h
      refine cut_at (()) (some_in h) ?_
      exact weak_by
    rintro t3 rfl
    have h : _ = some _ := gt3
    refine avb ?_
    cases h;exact eq_by

theorem s_Backwards_ok (N : Nat) (v0 : List UInt8) {r : (List UInt8)} (h : s_Backwards N v0 = some r) : Pure Tryz.prog 206 [DV.one (D.s v0)] (DV.one (D.s r)) := by
 refine pure_of_walk Tryz.tok Tryz.mixed Tryz.func206 (by kernel_rfl) fun W => ?_
 unfold s_Backwards at h
 refine ab0 ?_
 refine W.r_seq ?_
 refine ab0 ?_
 refine W.r_seq ?_
 refine ab0 ?_
 obtain ⟨zt1, h, gt1⟩ := bnd_some h
 refine W.r_cut (fun (t1 : (List UInt8)) => ⟨[(3, .d (D.s t1))], [], 1000⟩) (fun t => t = zt1) ?_ ?_
 ·refine avb ?_
  refine loop_lp (fun (p1 : (List UInt8) × Int) => ⟨[(0, .d (D.s v0)), (3, .d (D.s p1.1)), (4, .d (D.i p1.2))], [], 1000⟩) h ?_ ?_
  ·exact weak_by
  intro np1 p1 yp1 h hfp1
  unfold s_Backwards_L1 at h
  refine avb ?_
  refine lns (v0.length : Int) ?_
  refine avb ?_
  refine brb h ?_ ?_<;>intro _ h
  ·refine lns (v0.length : Int) ?_
   refine avb ?_
   refine brb h ?_ ?_<;>intro _ h
   ·refine chk_sel h (fun q => q) (fun h => ?_)
    refine avb ?_
    refine chk_sel h (fun q => Nat.le_trans q (by decide)) (fun h => ?_)
    refine avb ?_
    exact lbk hfp1 h
   ·have h := finr hfp1 h
    refine cut_at (p1.1) (some_in h) ?_
    exact weak_by
  ·have h := finr hfp1 h
   refine cut_at (p1.1) (some_in h) ?_
   exact weak_by
 rintro t1 rfl
 have h : _ = some _ := gt1
 refine avb ?_
 cases h;exact eq_by

theorem s_TurnGrid_ok (N : Nat) (v0 : Gx.Grid) {r : Gx.Grid} (h : s_TurnGrid N v0 = some r) : Pure Tryz.prog 168 [DV.agg (Gx.Grid.enc v0)] (DV.agg (Gx.Grid.enc r)) := by
 refine pure_of_walk Tryz.tok Tryz.mixed Tryz.func168 (by kernel_rfl) fun W => ?_
 unfold s_TurnGrid at h
 refine avb ?_
 refine plb ?_;refine call_sel (E := fun (x : Bool) => DV.one (D.b x)) h (fun x1 h1 => (s_IsGrid_ok N v0 h1)) (fun x1 hx1 h => ?_)
 refine avb ?_
 refine brb h ?_ ?_<;>intro _ h
 ·cases h;exact eq_by
 ·refine plb ?_;refine call_sel (E := fun (x : (List UInt8)) => DV.one (D.s x)) h (fun x2 h1 => (s_Backwards_ok N v0.mCells h1)) (fun x2 hx2 h => ?_)
  refine avb ?_
  cases h;exact eq_by

theorem s_IsSymmetric_ok (N : Nat) (v0 : Gx.Grid) {r : Bool} (h : s_IsSymmetric N v0 = some r) : Pure Tryz.prog 131 [DV.agg (Gx.Grid.enc v0)] (DV.one (D.b r)) := by
 refine pure_of_walk Tryz.tok Tryz.mixed Tryz.func131 (by kernel_rfl) fun W => ?_
 unfold s_IsSymmetric at h
 refine avb ?_
 refine plb ?_;refine call_sel (E := fun (x : Bool) => DV.one (D.b x)) h (fun x1 h1 => (s_IsGrid_ok N v0 h1)) (fun x1 hx1 h => ?_)
 refine avb ?_
 refine brb h ?_ ?_<;>intro _ h
 ·refine plb ?_;refine call_sel (E := fun (x : Gx.Grid) => DV.agg (Gx.Grid.enc x)) h (fun x2 h1 => (s_TurnGrid_ok N v0 h1)) (fun x2 hx2 h => ?_)
  refine avb ?_
  cases h;exact eq_by
 ·cases h;exact eq_by

theorem s_l10Reach_ok (N : Nat) (v0 : Gx.Grid) (v1 : List (Bool)) (v2 : Int) {r : (List (Bool))} (h : s_l10Reach N v0 v1 v2 = some r) : Turn Tryz.prog 207 [.agg [.d (D.i v0.mRows), .d (D.i v0.mCols), .d (D.s v0.mCells)], .sl 0, .d (D.i v2)] [.arr 1 (List.map Gx.encB v1) true] [some (.arr 1 (List.map Gx.encB r) true)] (.sl 0) := by
 refine turn_of_walk Tryz.tok Tryz.mixed Tryz.func207 (by kernel_rfl) rfl fun W => ?_
 unfold s_l10Reach at h
 refine avb ?_
 refine idxp_sel h (fun x1 hx1 h => ?_)
 refine avb ?_
 refine ldp_sel hx1 ?_
 refine ab0 ?_
 obtain ⟨zt20, h, gt20⟩ := bnd_some h
 refine W.r_cut (fun (t20 : (List (Bool))) => ⟨[(1, .sl 1)], [(1, some (.arr 1 (List.map Gx.encB t20) true)), (990, some (.pin [.sl 1]))], 1000⟩) (fun t => t = zt20) ?_ ?_
 ·refine avb ?_
  refine loop_lp (fun (p1 : (List (Bool)) × Bool) => ⟨[(1, .sl 1), (3, .ptr 2 0 0), (7, .d (D.b p1.2))], [(1, some (.arr 1 (List.map Gx.encB p1.1) true)), (2, some (.box [.d (D.i v0.mRows), .d (D.i v0.mCols), .d (D.s v0.mCells)])), (990, some (.pin [.sl 1]))], 1000⟩) h ?_ ?_
  ·exact weak_by
  intro np1 p1 yp1 h hfp1
  unfold s_l10Reach_L1 at h
  refine avb ?_
  refine brb h ?_ ?_<;>intro _ h
  ·refine loop_lp (fun (p2 : (List (Bool)) × Bool × Int) => ⟨[(1, .sl 1), (3, .ptr 2 0 0), (7, .d (D.b p2.2.1)), (8, .d (D.i p2.2.2))], [(1, some (.arr 1 (List.map Gx.encB p2.1) true)), (2, some (.box [.d (D.i v0.mRows), .d (D.i v0.mCols), .d (D.s v0.mCells)])), (990, some (.pin [.sl 1]))], 1000⟩) h ?_ ?_
   ·exact weak_by
   intro np2 p2 yp2 h hfp2
   unfold s_l10Reach_L2 at h
   refine avb ?_
   refine lns (p2.1.length : Int) ?_
   refine avb ?_
   refine brb h ?_ ?_<;>intro _ h
   ·refine idxp_sel h (fun x2 hx2 h => ?_)
    refine avb ?_
    refine ldp_sel hx2 ?_
    refine avb ?_
    refine brb h ?_ ?_<;>intro _ h
    ·exact lbk hfp2 h
    ·refine chk_sel h (fun q => q) (fun h => ?_)
     refine avb ?_
     refine brb h ?_ ?_<;>intro _ h
     ·exact lbk hfp2 h
     ·refine chk_sel h (fun q => q) (fun h => ?_)
      refine ab0 ?_
      obtain ⟨zt18, h, gt18⟩ := bnd_some h
      refine W.r_cut (fun (t18 : Bool) => ⟨[(1, .sl 1), (3, .ptr 2 0 0), (7, .d (D.b p2.2.1)), (8, .d (D.i p2.2.2)), (10, .d (D.b t18))], [(1, some (.arr 1 (List.map Gx.encB p2.1) true)), (2, some (.box [.d (D.i v0.mRows), .d (D.i v0.mCols), .d (D.s v0.mCells)])), (990, some (.pin [.sl 1]))], 1000⟩) (fun t => t = zt18) ?_ ?_
      ·refine avb ?_
       refine brb h ?_ ?_<;>intro _ h
       ·refine idxp_sel h (fun x3 hx3 h => ?_)
        refine avb ?_
        refine ldp_sel hx3 ?_
        refine avb ?_
        refine brb h ?_ ?_<;>intro _ h
        ·refine cut_at (true) (some_in h) ?_
         exact weak_by
        ·refine brb h ?_ ?_<;>intro _ h
         ·refine idxp_sel h (fun x4 hx4 h => ?_)
          refine avb ?_
          refine ldp_sel hx4 ?_
          refine avb ?_
          refine brb h ?_ ?_<;>intro _ h
          ·refine cut_at (true) (some_in h) ?_
           exact weak_by
          ·refine brb h ?_ ?_<;>intro _ h
           ·refine idxp_sel h (fun x5 hx5 h => ?_)
            refine avb ?_
            refine ldp_sel hx5 ?_
            refine avb ?_
            refine brb h ?_ ?_<;>intro _ h
            ·refine cut_at (true) (some_in h) ?_
             exact weak_by
            ·refine lns (p2.1.length : Int) ?_
             refine avb ?_
             refine brb h ?_ ?_<;>intro _ h
             ·refine idxp_sel h (fun x6 hx6 h => ?_)
              refine avb ?_
              refine ldp_sel hx6 ?_
              refine avb ?_
              refine cut_at (x6) (some_in h) ?_
              exact weak_by
             ·refine cut_at (false) (some_in h) ?_
              exact weak_by
           ·refine lns (p2.1.length : Int) ?_
            refine avb ?_
            refine brb h ?_ ?_<;>intro _ h
            ·refine idxp_sel h (fun x7 hx7 h => ?_)
             refine avb ?_
             refine ldp_sel hx7 ?_
             refine avb ?_
             refine cut_at (x7) (some_in h) ?_
             exact weak_by
            ·refine cut_at (false) (some_in h) ?_
             exact weak_by
         ·refine brb h ?_ ?_<;>intro _ h
          ·refine idxp_sel h (fun x8 hx8 h => ?_)
           refine avb ?_
           refine ldp_sel hx8 ?_
           refine avb ?_
           refine brb h ?_ ?_<;>intro _ h
           ·refine cut_at (true) (some_in h) ?_
            exact weak_by
           ·refine lns (p2.1.length : Int) ?_
            refine avb ?_
            refine brb h ?_ ?_<;>intro _ h
            ·refine idxp_sel h (fun x9 hx9 h => ?_)
             refine avb ?_
             refine ldp_sel hx9 ?_
             refine avb ?_
             refine cut_at (x9) (some_in h) ?_
             exact weak_by
            ·refine cut_at (false) (some_in h) ?_
             exact weak_by
          ·refine lns (p2.1.length : Int) ?_
           refine avb ?_
           refine brb h ?_ ?_<;>intro _ h
           ·refine idxp_sel h (fun x10 hx10 h => ?_)
            refine avb ?_
            refine ldp_sel hx10 ?_
            refine avb ?_
            refine cut_at (x10) (some_in h) ?_
            exact weak_by
           ·refine cut_at (false) (some_in h) ?_
            exact weak_by
       ·refine brb h ?_ ?_<;>intro _ h
        ·refine idxp_sel h (fun x11 hx11 h => ?_)
         refine avb ?_
         refine ldp_sel hx11 ?_
         refine avb ?_
         refine brb h ?_ ?_<;>intro _ h
         ·refine cut_at (true) (some_in h) ?_
          exact weak_by
         ·refine brb h ?_ ?_<;>intro _ h
          ·refine idxp_sel h (fun x12 hx12 h => ?_)
           refine avb ?_
           refine ldp_sel hx12 ?_
           refine avb ?_
           refine brb h ?_ ?_<;>intro _ h
           ·refine cut_at (true) (some_in h) ?_
            exact weak_by
           ·refine lns (p2.1.length : Int) ?_
            refine avb ?_
            refine brb h ?_ ?_<;>intro _ h
            ·refine idxp_sel h (fun x13 hx13 h => ?_)
             refine avb ?_
             refine ldp_sel hx13 ?_
             refine avb ?_
             refine cut_at (x13) (some_in h) ?_
             exact weak_by
            ·refine cut_at (false) (some_in h) ?_
             exact weak_by
          ·refine lns (p2.1.length : Int) ?_
           refine avb ?_
           refine brb h ?_ ?_<;>intro _ h
           ·refine idxp_sel h (fun x14 hx14 h => ?_)
            refine avb ?_
            refine ldp_sel hx14 ?_
            refine avb ?_
            refine cut_at (x14) (some_in h) ?_
            exact weak_by
           ·refine cut_at (false) (some_in h) ?_
            exact weak_by
        ·refine brb h ?_ ?_<;>intro _ h
         ·refine idxp_sel h (fun x15 hx15 h => ?_)
          refine avb ?_
          refine ldp_sel hx15 ?_
          refine avb ?_
          refine brb h ?_ ?_<;>intro _ h
          ·refine cut_at (true) (some_in h) ?_
           exact weak_by
          ·refine lns (p2.1.length : Int) ?_
           refine avb ?_
           refine brb h ?_ ?_<;>intro _ h
           ·refine idxp_sel h (fun x16 hx16 h => ?_)
            refine avb ?_
            refine ldp_sel hx16 ?_
            refine avb ?_
            refine cut_at (x16) (some_in h) ?_
            exact weak_by
           ·refine cut_at (false) (some_in h) ?_
            exact weak_by
         ·refine lns (p2.1.length : Int) ?_
          refine avb ?_
          refine brb h ?_ ?_<;>intro _ h
          ·refine idxp_sel h (fun x17 hx17 h => ?_)
           refine avb ?_
           refine ldp_sel hx17 ?_
           refine avb ?_
           refine cut_at (x17) (some_in h) ?_
           exact weak_by
          ·refine cut_at (false) (some_in h) ?_
           exact weak_by
      rintro t18 rfl
      have h : _ = some _ := gt18
      refine avb ?_
      refine brb h ?_ ?_<;>intro _ h
      ·refine idxp_sel h (fun x19 hx19 h => ?_)
       refine avb ?_
       refine ldp_sel hx19 ?_
       refine avb ?_
       exact lbk hfp2 h
      ·exact lbk hfp2 h
   ·have h := finr hfp2 h
    exact lbk hfp1 h
  ·have h := finr hfp1 h
   refine cut_at (p1.1) (some_in h) ?_
   exact weak_by
 rintro t20 rfl
 have h : _ = some _ := gt20
 refine avb ?_
 obtain rfl := some_in h
 exact ⟨cons_eq (some_arr (by (exact eq_by))) (rfl), by (exact eq_by)⟩

theorem s_PartsOf_ok (N : Nat) (v0 : Gx.Grid) {r : Int} (h : s_PartsOf N v0 = some r) : Pure Tryz.prog 169 [DV.agg (Gx.Grid.enc v0)] (DV.one (D.i r)) := by
 refine pure_of_walk Tryz.tok Tryz.mixed Tryz.func169 (by kernel_rfl) fun W => ?_
 unfold s_PartsOf at h
 refine ab0 ?_
 refine W.r_seq ?_
 refine ab0 ?_
 refine W.r_seq ?_
 refine ab0 ?_
 refine W.r_seq ?_
 refine ab0 ?_
 obtain ⟨zt1, h, gt1⟩ := bnd_some h
 refine W.r_cut (fun (t1 : (List (Bool))) => ⟨[(1, .ptr 1 0 0), (3, .d (D.i 0)), (4, .sl 2)], [(1, some (.box [.d (D.i v0.mRows), .d (D.i v0.mCols), .d (D.s v0.mCells)])), (2, some (.arr 1 (List.map Gx.encB t1) true))], 1000⟩) (fun t => t = zt1) ?_ ?_
 ·refine avb ?_
  refine loop_lp (fun (p1 : (List (Bool)) × Int) => ⟨[(1, .ptr 1 0 0), (3, .d (D.i 0)), (4, .sl 2), (5, .d (D.i p1.2))], [(1, some (.box [.d (D.i v0.mRows), .d (D.i v0.mCols), .d (D.s v0.mCells)])), (2, some (.arr 1 (List.map Gx.encB p1.1) true))], 1000⟩) h ?_ ?_
  ·exact weak_by
  intro np1 p1 yp1 h hfp1
  unfold s_PartsOf_L1 at h
  refine avb ?_
  refine lns (v0.mCells.length : Int) ?_
  refine avb ?_
  refine brb h ?_ ?_<;>intro _ h
  ·refine app_sel h (app_ok (by (first|rfl|simp [sub])) (by (first|rfl|simp [sub])) (by decide)) (by (intro h; cases h)) (fun h => ?_)
   refine avb ?_
   exact lbk hfp1 h
  ·have h := finr hfp1 h
   refine cut_at (p1.1) (some_in h) ?_
   exact weak_by
 rintro t1 rfl
 have h : _ = some _ := gt1
 refine ab0 ?_
 obtain ⟨zt12, h, gt12⟩ := bnd_some h
 refine W.r_cut (fun (t12 : Int) => ⟨[(3, .d (D.i t12))], [], 1000⟩) (fun t => t = zt12) ?_ ?_
 ·refine avb ?_
  refine loop_lp (fun (p2 : Int × (List (Bool)) × Int) => ⟨[(1, .ptr 1 0 0), (3, .d (D.i p2.1)), (4, .sl 2), (6, .d (D.i p2.2.2))], [(1, some (.box [.d (D.i v0.mRows), .d (D.i v0.mCols), .d (D.s v0.mCells)])), (2, some (.arr 1 (List.map Gx.encB p2.2.1) true))], 1000⟩) h ?_ ?_
  ·exact weak_by
  intro np2 p2 yp2 h hfp2
  unfold s_PartsOf_L2 at h
  refine avb ?_
  refine lns (v0.mCells.length : Int) ?_
  refine avb ?_
  refine brb h ?_ ?_<;>intro _ h
  ·refine plb ?_;refine call_sel (E := fun (x : Bool) => DV.one (D.b x)) h (fun x2 h1 => (s_IsGrid_ok N v0 h1)) (fun x2 hx2 h => ?_)
   refine avb ?_
   refine br_sel h (fun _ h => ?_) (fun _ h => ?_)
   ·refine ab0 ?_
    obtain ⟨zt11, h, gt11⟩ := bnd_some h
    refine W.r_cut (fun (t11 : Int × (List (Bool))) => ⟨[(1, .ptr 1 0 0), (3, .d (D.i t11.1)), (4, .sl 2), (6, .d (D.i p2.2.2))], [(1, some (.box [.d (D.i v0.mRows), .d (D.i v0.mCols), .d (D.s v0.mCells)])), (2, some (.arr 1 (List.map Gx.encB t11.2) true))], 1000⟩) (fun t => t = zt11) ?_ ?_
    ·refine ab0 ?_
     obtain ⟨zt4, h, gt4⟩ := bnd_some h
     refine W.r_cut (fun (t4 : Bool) => ⟨[(1, .ptr 1 0 0), (3, .d (D.i p2.1)), (4, .sl 2), (6, .d (D.i p2.2.2)), (43, .d (D.b t4))], [(1, some (.box [.d (D.i v0.mRows), .d (D.i v0.mCols), .d (D.s v0.mCells)])), (2, some (.arr 1 (List.map Gx.encB p2.2.1) true))], 1000⟩) (fun t => t = zt4) ?_ ?_
     ·refine avb ?_
      refine chk_sel h (fun q => q) (fun h => ?_)
      refine avb ?_
      refine brb h ?_ ?_<;>intro _ h
      ·refine idxp_sel h (fun x3 hx3 h => ?_)
       refine avb ?_
       refine ldp_sel hx3 ?_
       refine avb ?_
       refine cut_at (!x3) (some_in h) ?_
       exact weak_by
      ·refine cut_at (false) (some_in h) ?_
       exact weak_by
     rintro t4 rfl
     have h : _ = some _ := gt4
     refine avb ?_
     refine br_sel h (fun _ h => ?_) (fun _ h => ?_)
     ·refine ab0 ?_
      refine W.r_seq ?_
      refine ab0 ?_
      refine W.r_seq ?_
      refine ab0 ?_
      obtain ⟨zt5, h, gt5⟩ := bnd_some h
      refine W.r_cut (fun (t5 : (List (Bool))) => ⟨[(1, .ptr 1 0 0), (3, .d (D.i (w64 (p2.1 + 1)))), (4, .sl 2), (6, .d (D.i p2.2.2)), (7, .sl 3)], [(1, some (.box [.d (D.i v0.mRows), .d (D.i v0.mCols), .d (D.s v0.mCells)])), (2, some (.arr 1 (List.map Gx.encB p2.2.1) true)), (3, some (.arr 1 (List.map Gx.encB t5) true))], 1000⟩) (fun t => t = zt5) ?_ ?_
      ·refine avb ?_
       refine loop_lp (fun (p3 : (List (Bool)) × Int) => ⟨[(1, .ptr 1 0 0), (3, .d (D.i (w64 (p2.1 + 1)))), (4, .sl 2), (6, .d (D.i p2.2.2)), (7, .sl 3), (8, .d (D.i p3.2))], [(1, some (.box [.d (D.i v0.mRows), .d (D.i v0.mCols), .d (D.s v0.mCells)])), (2, some (.arr 1 (List.map Gx.encB p2.2.1) true)), (3, some (.arr 1 (List.map Gx.encB p3.1) true))], 1000⟩) h ?_ ?_
       ·exact weak_by
       intro np3 p3 yp3 h hfp3
       unfold s_PartsOf_L3 at h
       refine avb ?_
       refine lns (p2.2.1.length : Int) ?_
       refine avb ?_
       refine brb h ?_ ?_<;>intro _ h
       ·refine app_sel h (app_ok (by (first|rfl|simp [sub])) (by (first|rfl|simp [sub])) (by decide)) (by (intro h; cases h)) (fun h => ?_)
        refine avb ?_
        exact lbk hfp3 h
       ·have h := finr hfp3 h
        refine cut_at (p3.1) (some_in h) ?_
        exact weak_by
      rintro t5 rfl
      have h : _ = some _ := gt5
      refine avb ?_
      refine qtb ?_;refine turn_sel (O := fun (x6 : (List (Bool))) => [some (.arr 1 (List.map Gx.encB x6) true)]) (V := fun (x6 : (List (Bool))) => .sl 0) h ⟨flat_map (fun _ => rfl), trivial⟩ (fun x6 h1 => (s_l10Reach_ok N v0 t5 p2.2.2 h1)) (fun x6 hx6 h => ?_)
      refine avb ?_
      refine loop_lp (fun (p4 : (List (Bool)) × Int) => ⟨[(1, .ptr 1 0 0), (3, .d (D.i (w64 (p2.1 + 1)))), (4, .sl 2), (6, .d (D.i p2.2.2)), (7, .sl 3), (9, .d (D.i p4.2))], [(1, some (.box [.d (D.i v0.mRows), .d (D.i v0.mCols), .d (D.s v0.mCells)])), (2, some (.arr 1 (List.map Gx.encB p4.1) true)), (3, some (.arr 1 (List.map Gx.encB x6) true))], 1000⟩) h ?_ ?_
      ·exact weak_by
      intro np4 p4 yp4 h hfp4
      unfold s_PartsOf_L4 at h
      refine avb ?_
      refine lns (p4.1.length : Int) ?_
      refine avb ?_
      refine brb h ?_ ?_<;>intro _ h
      ·refine idxp_sel h (fun x7 hx7 h => ?_)
       refine avb ?_
       refine ldp_sel hx7 ?_
       refine avb ?_
       refine brb h ?_ ?_<;>intro _ h
       ·refine idxp_sel h (fun x8 hx8 h => ?_)
        refine avb ?_
        refine ldp_sel hx8 ?_
        refine avb ?_
        exact lbk hfp4 h
       ·refine idxp_sel h (fun x9 hx9 h => ?_)
        refine avb ?_
        refine ldp_sel hx9 ?_
        refine avb ?_
        refine idxp_sel h (fun x10 hx10 h => ?_)
        refine avb ?_
        refine ldp_sel hx10 ?_
        refine avb ?_
        exact lbk hfp4 h
      ·have h := finr hfp4 h
       refine cut_at ((w64 (p2.1 + 1), p4.1)) (some_in h) ?_
       exact weak_by
     ·refine avb ?_
      refine cut_at ((p2.1, p2.2.1)) (some_in h) ?_
      exact weak_by
    rintro t11 rfl
    have h : _ = some _ := gt11
    refine avb ?_
    exact lbk hfp2 h
   ·refine avb ?_
    have h := finr hfp2 h
    refine cut_at (p2.1) (some_in h) ?_
    exact weak_by
  ·have h := finr hfp2 h
   refine cut_at (p2.1) (some_in h) ?_
   exact weak_by
 rintro t12 rfl
 have h : _ = some _ := gt12
 refine avb ?_
 cases h;exact eq_by

theorem s_IsConnected_ok (N : Nat) (v0 : Gx.Grid) {r : Bool} (h : s_IsConnected N v0 = some r) : Pure Tryz.prog 132 [DV.agg (Gx.Grid.enc v0)] (DV.one (D.b r)) := by
 refine pure_of_walk Tryz.tok Tryz.mixed Tryz.func132 (by kernel_rfl) fun W => ?_
 unfold s_IsConnected at h
 refine avb ?_
 refine plb ?_;refine call_sel (E := fun (x : Int) => DV.one (D.i x)) h (fun x1 h1 => (s_PartsOf_ok N v0 h1)) (fun x1 hx1 h => ?_)
 refine avb ?_
 cases h;exact eq_by

theorem s_l8From_ok (N : Nat) (v0 : Gx.Grid) (v1 : Int) (v2 : Bool) {r : Int} (h : s_l8From N v0 v1 v2 = some r) : Pure Tryz.prog 135 [DV.agg (Gx.Grid.enc v0), DV.one (D.i v1), DV.one (D.b v2)] (DV.one (D.i r)) := by
 refine pure_of_walk Tryz.tok Tryz.mixed Tryz.func135 (by kernel_rfl) fun W => ?_
 unfold s_l8From at h
 refine avb ?_
 refine chk_sel h (fun q => q) (fun h => ?_)
 refine ab0 ?_
 refine W.r_seq ?_
 refine ab0 ?_
 obtain ⟨zt1, h, gt1⟩ := bnd_some h
 refine W.r_cut (fun (t1 : Int × Int × Int) => ⟨[(1, .d (D.i v1)), (3, .ptr 1 0 0), (7, .d (D.i t1.1)), (8, .d (D.i t1.2.1)), (9, .d (D.i t1.2.2))], [(1, some (.box [.d (D.i v0.mRows), .d (D.i v0.mCols), .d (D.s v0.mCells)]))], 1000⟩) (fun t => t = zt1) ?_ ?_
 ·refine avb ?_
  refine brb h ?_ ?_<;>intro _ h
  ·refine chk_sel h (fun q => q) (fun h => ?_)
   refine avb ?_
   refine cut_at ((v0.mCols, w64 (Int.tdiv v1 v0.mCols), v0.mRows)) (some_in h) ?_
   exact weak_by
  ·refine cut_at ((1, Int.tmod v1 v0.mCols, v0.mCols)) (some_in h) ?_
   exact weak_by
 rintro t1 rfl
 have h : _ = some _ := gt1
 refine ab0 ?_
 obtain ⟨zt2, h, gt2⟩ := cutb_some h
 refine W.r_cut (fun (t2 : Unit) => ⟨[(1, .d (D.i v1)), (3, .ptr 1 0 0), (7, .d (D.i t1.1)), (8, .d (D.i t1.2.1)), (9, .d (D.i t1.2.2))], [(1, some (.box [.d (D.i v0.mRows), .d (D.i v0.mCols), .d (D.s v0.mCells)]))], 1000⟩) (fun t => .nx t = zt2) ?_ ?_
 ·refine avb ?_
  refine chk_sel h (fun q => q) (fun h => ?_)
  refine avb ?_
  refine brb h ?_ ?_<;>intro _ h
  ·have h := cutr gt2 h
   cases h;exact eq_by
  ·refine brb h ?_ ?_<;>intro _ h
   ·refine chk_sel h (fun q => q) (fun h => ?_)
    refine avb ?_
    refine brb h ?_ ?_<;>intro _ h
    ·have h := cutr gt2 h
     cases h;exact eq_by
    ·refine cut_at (()) (some_in h) ?_
     exact weak_by
   ·refine cut_at (()) (some_in h) ?_
    exact weak_by
 rintro t2 rfl
 have h : _ = some _ := gt2
 refine ab0 ?_
 refine W.r_seq ?_
 refine ab0 ?_
 obtain ⟨zt3, h, gt3⟩ := bnd_some h
 refine W.r_cut (fun (t3 : Int) => ⟨[(10, .d (D.i t3))], [], 1000⟩) (fun t => t = zt3) ?_ ?_
 ·refine avb ?_
  refine loop_lp (fun (p1 : Int) => ⟨[(1, .d (D.i v1)), (3, .ptr 1 0 0), (7, .d (D.i t1.1)), (8, .d (D.i t1.2.1)), (9, .d (D.i t1.2.2)), (10, .d (D.i p1))], [(1, some (.box [.d (D.i v0.mRows), .d (D.i v0.mCols), .d (D.s v0.mCells)]))], 1000⟩) h ?_ ?_
  ·exact weak_by
  intro np1 p1 yp1 h hfp1
  unfold s_l8From_L1 at h
  refine avb ?_
  refine brb h ?_ ?_<;>intro _ h
  ·refine chk_sel h (fun q => q) (fun h => ?_)
   refine avb ?_
   refine brb h ?_ ?_<;>intro _ h
   ·exact lbk hfp1 h
   ·have h := finr hfp1 h
    refine cut_at (p1) (some_in h) ?_
    exact weak_by
  ·have h := finr hfp1 h
   refine cut_at (p1) (some_in h) ?_
   exact weak_by
 rintro t3 rfl
 have h : _ = some _ := gt3
 refine avb ?_
 cases h;exact eq_by

theorem s_SlotsOf_ok (N : Nat) (v0 : Gx.Grid) {r : (List (Gx.Slot))} (h : s_SlotsOf N v0 = some r) : Pure Tryz.prog 94 [DV.agg (Gx.Grid.enc v0)] (DV.one (D.sl 4 (List.map Gx.Slot.enc r))) := by
 refine pure_of_walk Tryz.tok Tryz.mixed Tryz.func94 (by kernel_rfl) fun W => ?_
 unfold s_SlotsOf at h
 refine ab0 ?_
 refine W.r_seq ?_
 refine ab0 ?_
 refine W.r_seq ?_
 refine ab0 ?_
 refine W.r_seq ?_
 refine ab0 ?_
 obtain ⟨zt6, h, gt6⟩ := bnd_some h
 refine W.r_cut (fun (t6 : (List (Gx.Slot))) => ⟨[(3, .sl 1)], [(1, some (.arr 4 (List.map Gx.Slot.enc t6) true))], 1000⟩) (fun t => t = zt6) ?_ ?_
 ·refine avb ?_
  refine loop_lp (fun (p1 : (List (Gx.Slot)) × Int × Int) => ⟨[(1, .ptr 1 0 0), (3, .sl 2), (4, .d (D.i p1.2.1)), (5, .d (D.i p1.2.2))], [(1, some (.box [.d (D.i v0.mRows), .d (D.i v0.mCols), .d (D.s v0.mCells)])), (2, some (.arr 4 (List.map Gx.Slot.enc p1.1) true))], 1000⟩) h ?_ ?_
  ·exact weak_by
  intro np1 p1 yp1 h hfp1
  unfold s_SlotsOf_L1 at h
  refine avb ?_
  refine lns (v0.mCells.length : Int) ?_
  refine avb ?_
  refine brb h ?_ ?_<;>intro _ h
  ·refine plb ?_;refine call_sel (E := fun (x : Bool) => DV.one (D.b x)) h (fun x1 h1 => (s_IsGrid_ok N v0 h1)) (fun x1 hx1 h => ?_)
   refine avb ?_
   refine brb h ?_ ?_<;>intro _ h
   ·refine plb ?_;refine call_sel (E := fun (x : Int) => DV.one (D.i x)) h (fun x2 h1 => (s_l8From_ok N v0 p1.2.2 false h1)) (fun x2 hx2 h => ?_)
    refine avb ?_
    refine plb ?_;refine call_sel (E := fun (x : Int) => DV.one (D.i x)) h (fun x3 h1 => (s_l8From_ok N v0 p1.2.2 true h1)) (fun x3 hx3 h => ?_)
    refine ab0 ?_
    obtain ⟨zt4, h, gt4⟩ := bnd_some h
    refine W.r_cut (fun (t4 : Int) => ⟨[(1, .ptr 1 0 0), (3, .sl 2), (4, .d (D.i t4)), (5, .d (D.i p1.2.2)), (6, .d (D.i x2)), (7, .d (D.i x3))], [(1, some (.box [.d (D.i v0.mRows), .d (D.i v0.mCols), .d (D.s v0.mCells)])), (2, some (.arr 4 (List.map Gx.Slot.enc p1.1) true))], 1000⟩) (fun t => t = zt4) ?_ ?_
    ·refine avb ?_
     refine brb h ?_ ?_<;>intro _ h
     ·refine cut_at (w64 (p1.2.1 + 1)) (some_in h) ?_
      exact weak_by
     ·refine brb h ?_ ?_<;>intro _ h
      ·refine cut_at (w64 (p1.2.1 + 1)) (some_in h) ?_
       exact weak_by
      ·refine cut_at (p1.2.1) (some_in h) ?_
       exact weak_by
    rintro t4 rfl
    have h : _ = some _ := gt4
    refine ab0 ?_
    obtain ⟨zt5, h, gt5⟩ := bnd_some h
    refine W.r_cut (fun (t5 : (List (Gx.Slot))) => ⟨[(1, .ptr 1 0 0), (3, .sl 2), (4, .d (D.i t4)), (5, .d (D.i p1.2.2)), (7, .d (D.i x3))], [(1, some (.box [.d (D.i v0.mRows), .d (D.i v0.mCols), .d (D.s v0.mCells)])), (2, some (.arr 4 (List.map Gx.Slot.enc t5) true))], 1000⟩) (fun t => t = zt5) ?_ ?_
    ·refine avb ?_
     refine brb h ?_ ?_<;>intro _ h
     ·refine app_sel h (app_ok (by (first|rfl|simp [sub])) (by (first|rfl|simp [sub])) (by decide)) (by (intro h; cases h)) (fun h => ?_)
      refine avb ?_
      refine cut_at (p1.1 ++ ([(⟨t4, false, p1.2.2, x2⟩ : Gx.Slot)])) (some_in h) ?_
      exact weak_by
     ·refine cut_at (p1.1) (some_in h) ?_
      exact weak_by
    rintro t5 rfl
    have h : _ = some _ := gt5
    refine avb ?_
    refine brb h ?_ ?_<;>intro _ h
    ·refine app_sel h (app_ok (by (first|rfl|simp [sub])) (by (first|rfl|simp [sub])) (by decide)) (by (intro h; cases h)) (fun h => ?_)
     refine avb ?_
     exact lbk hfp1 h
    ·exact lbk hfp1 h
   ·have h := finr hfp1 h
    refine cut_at (p1.1) (some_in h) ?_
    exact weak_by
  ·have h := finr hfp1 h
   refine cut_at (p1.1) (some_in h) ?_
   exact weak_by
 rintro t6 rfl
 have h : _ = some _ := gt6
 refine avb ?_
 cases h;exact eq_by

theorem s_l10Short_ok (N : Nat) (v0 : Gx.Grid) {r : Bool} (h : s_l10Short N v0 = some r) : Pure Tryz.prog 133 [DV.agg (Gx.Grid.enc v0)] (DV.one (D.b r)) := by
 refine pure_of_walk Tryz.tok Tryz.mixed Tryz.func133 (by kernel_rfl) fun W => ?_
 unfold s_l10Short at h
 refine avb ?_
 refine plb ?_;refine call_sel (E := fun (x : (List (Gx.Slot))) => DV.one (D.sl 4 (List.map Gx.Slot.enc x))) h (fun x1 h1 => (s_SlotsOf_ok N v0 h1)) (fun x1 hx1 h => ?_)
 refine ab0 ?_
 obtain ⟨zt3, h, gt3⟩ := cutb_some h
 refine W.r_cut (fun (t3 : Unit) => ⟨[], [], 1000⟩) (fun t => .nx t = zt3) ?_ ?_
 ·refine avb ?_
  refine loop_lp (fun (p1 : Int) => ⟨[(3, .sl 1), (4, .d (D.i p1))], [(1, some (.arr 4 (List.map Gx.Slot.enc x1) true))], 1000⟩) h ?_ ?_
  ·exact weak_by
  intro np1 p1 yp1 h hfp1
  unfold s_l10Short_L1 at h
  refine avb ?_
  refine lns (x1.length : Int) ?_
  refine avb ?_
  refine brb h ?_ ?_<;>intro _ h
  ·refine idxp_sel h (fun x2 hx2 h => ?_)
   refine avb ?_
   refine ldp_sel hx2 ?_
   refine avb ?_
   refine brb h ?_ ?_<;>intro _ h
   ·have h := finr hfp1 h
    have h := cutr gt3 h
    cases h;exact eq_by
   ·exact lbk hfp1 h
  ·have h := finr hfp1 h
   refine cut_at (()) (some_in h) ?_
   exact weak_by
 rintro t3 rfl
 have h : _ = some _ := gt3
 refine avb ?_
 cases h;exact eq_by

theorem s_CellsOf_ok (N : Nat) (v0 : Gx.Grid) (v1 : Gx.Slot) {r : (List (Int))} (h : s_CellsOf N v0 v1 = some r) : Pure Tryz.prog 208 [DV.agg (Gx.Grid.enc v0), DV.agg (Gx.Slot.enc v1)] (DV.one (D.sl 1 (List.map Gx.encI r))) := by
 refine pure_of_walk Tryz.tok Tryz.mixed Tryz.func208 (by kernel_rfl) fun W => ?_
 unfold s_CellsOf at h
 refine avb ?_
 refine plb ?_;refine call_sel (E := fun (x : (List (Gx.Slot))) => DV.one (D.sl 4 (List.map Gx.Slot.enc x))) h (fun x1 h1 => (s_SlotsOf_ok N v0 h1)) (fun x1 hx1 h => ?_)
 refine ab0 ?_
 obtain ⟨zt4, h, gt4⟩ := bnd_some h
 refine W.r_cut (fun (t4 : (List (Int))) => ⟨[(5, .sl 1)], [(1, some (.arr 1 (List.map Gx.encI t4) true))], 1000⟩) (fun t => t = zt4) ?_ ?_
 ·refine avb ?_
  refine loop_lp (fun (p1 : (List (Int)) × Int) => ⟨[(2, .ptr 1 0 0), (3, .ptr 2 0 0), (5, .sl 3), (6, .sl 4), (7, .d (D.i p1.2))], [(1, some (.box [.d (D.i v0.mRows), .d (D.i v0.mCols), .d (D.s v0.mCells)])), (2, some (.box [.d (D.i v1.mNumber), .d (D.b v1.mDown), .d (D.i v1.mCell), .d (D.i v1.mLength)])), (3, some (.arr 1 (List.map Gx.encI p1.1) true)), (4, some (.arr 4 (List.map Gx.Slot.enc x1) true))], 1000⟩) h ?_ ?_
  ·exact weak_by
  intro np1 p1 yp1 h hfp1
  unfold s_CellsOf_L1 at h
  refine avb ?_
  refine lns (x1.length : Int) ?_
  refine avb ?_
  refine br_sel h (fun _ h => ?_) (fun _ h => ?_)
  ·refine ab0 ?_
   obtain ⟨zt3, h, gt3⟩ := bnd_some h
   refine W.r_cut (fun (t3 : (List (Int))) => ⟨[(2, .ptr 1 0 0), (3, .ptr 2 0 0), (5, .sl 3), (6, .sl 4), (7, .d (D.i p1.2))], [(1, some (.box [.d (D.i v0.mRows), .d (D.i v0.mCols), .d (D.s v0.mCells)])), (2, some (.box [.d (D.i v1.mNumber), .d (D.b v1.mDown), .d (D.i v1.mCell), .d (D.i v1.mLength)])), (3, some (.arr 1 (List.map Gx.encI t3) true)), (4, some (.arr 4 (List.map Gx.Slot.enc x1) true))], 1000⟩) (fun t => t = zt3) ?_ ?_
   ·refine avb ?_
    refine idxp_sel h (fun x2 hx2 h => ?_)
    refine avb ?_
    refine ldp_sel hx2 ?_
    refine avb ?_
    refine brb h ?_ ?_<;>intro _ h
    ·refine cut_at (p1.1) (some_in h) ?_
     exact weak_by
    ·refine loop_lp (fun (p2 : (List (Int)) × Int) => ⟨[(2, .ptr 1 0 0), (3, .ptr 2 0 0), (5, .sl 3), (6, .sl 4), (7, .d (D.i p1.2)), (8, .d (D.i p2.2))], [(1, some (.box [.d (D.i v0.mRows), .d (D.i v0.mCols), .d (D.s v0.mCells)])), (2, some (.box [.d (D.i v1.mNumber), .d (D.b v1.mDown), .d (D.i v1.mCell), .d (D.i v1.mLength)])), (3, some (.arr 1 (List.map Gx.encI p2.1) true)), (4, some (.arr 4 (List.map Gx.Slot.enc x1) true))], 1000⟩) h ?_ ?_
     ·exact weak_by
     intro np2 p2 yp2 h hfp2
     unfold s_CellsOf_L2 at h
     refine avb ?_
     refine brb h ?_ ?_<;>intro _ h
     ·refine brb h ?_ ?_<;>intro _ h
      ·refine app_sel h (app_ok (by (first|rfl|simp [sub])) (by (first|rfl|simp [sub])) (by decide)) (by (intro h; cases h)) (fun h => ?_)
       refine avb ?_
       exact lbk hfp2 h
      ·refine app_sel h (app_ok (by (first|rfl|simp [sub])) (by (first|rfl|simp [sub])) (by decide)) (by (intro h; cases h)) (fun h => ?_)
       refine avb ?_
       exact lbk hfp2 h
     ·have h := finr hfp2 h
      refine cut_at (p2.1) (some_in h) ?_
      exact weak_by
   rintro t3 rfl
   have h : _ = some _ := gt3
   refine avb ?_
   exact lbk hfp1 h
  ·refine avb ?_
   have h := finr hfp1 h
   refine cut_at (p1.1) (some_in h) ?_
   exact weak_by
 rintro t4 rfl
 have h : _ = some _ := gt4
 refine avb ?_
 cases h;exact eq_by

theorem s_l8Has_ok (N : Nat) (v0 : List (Int)) (v1 : Int) {r : Bool} (h : s_l8Has N v0 v1 = some r) : Pure Tryz.prog 210 [DV.one (D.sl 1 (List.map Gx.encI v0)), DV.one (D.i v1)] (DV.one (D.b r)) := by
 refine pure_of_walk Tryz.tok Tryz.mixed Tryz.func210 (by kernel_rfl) fun W => ?_
 unfold s_l8Has at h
 refine ab0 ?_
 refine W.r_seq ?_
 refine ab0 ?_
 obtain ⟨zt2, h, gt2⟩ := cutb_some h
 refine W.r_cut (fun (t2 : Unit) => ⟨[], [], 1000⟩) (fun t => .nx t = zt2) ?_ ?_
 ·refine avb ?_
  refine loop_lp (fun (p1 : Int) => ⟨[(0, .d (D.sl 1 (List.map Gx.encI v0))), (1, .d (D.i v1)), (5, .d (D.i p1))], [], 1000⟩) h ?_ ?_
  ·exact weak_by
  intro np1 p1 yp1 h hfp1
  unfold s_l8Has_L1 at h
  refine avb ?_
  refine lns (v0.length : Int) ?_
  refine avb ?_
  refine brb h ?_ ?_<;>intro _ h
  ·refine idx_sel h (fun x1 hx1 h => ?_)
   refine avb ?_
   refine brb h ?_ ?_<;>intro _ h
   ·have h := finr hfp1 h
    have h := cutr gt2 h
    cases h;exact eq_by
   ·exact lbk hfp1 h
  ·have h := finr hfp1 h
   refine cut_at (()) (some_in h) ?_
   exact weak_by
 rintro t2 rfl
 have h : _ = some _ := gt2
 refine avb ?_
 cases h;exact eq_by

theorem s_SlotsAt_ok (N : Nat) (v0 : Gx.Grid) (v1 : Int) {r : (List (Int))} (h : s_SlotsAt N v0 v1 = some r) : Pure Tryz.prog 172 [DV.agg (Gx.Grid.enc v0), DV.one (D.i v1)] (DV.one (D.sl 1 (List.map Gx.encI r))) := by
 refine pure_of_walk Tryz.tok Tryz.mixed Tryz.func172 (by kernel_rfl) fun W => ?_
 unfold s_SlotsAt at h
 refine avb ?_
 refine plb ?_;refine call_sel (E := fun (x : (List (Gx.Slot))) => DV.one (D.sl 4 (List.map Gx.Slot.enc x))) h (fun x1 h1 => (s_SlotsOf_ok N v0 h1)) (fun x1 hx1 h => ?_)
 refine ab0 ?_
 obtain ⟨zt5, h, gt5⟩ := bnd_some h
 refine W.r_cut (fun (t5 : (List (Int))) => ⟨[(5, .sl 1)], [(1, some (.arr 1 (List.map Gx.encI t5) true))], 1000⟩) (fun t => t = zt5) ?_ ?_
 ·refine avb ?_
  refine loop_lp (fun (p1 : (List (Int)) × Int) => ⟨[(1, .d (D.i v1)), (2, .ptr 1 0 0), (5, .sl 2), (6, .sl 3), (7, .d (D.i p1.2))], [(1, some (.box [.d (D.i v0.mRows), .d (D.i v0.mCols), .d (D.s v0.mCells)])), (2, some (.arr 1 (List.map Gx.encI p1.1) true)), (3, some (.arr 4 (List.map Gx.Slot.enc x1) true))], 1000⟩) h ?_ ?_
  ·exact weak_by
  intro np1 p1 yp1 h hfp1
  unfold s_SlotsAt_L1 at h
  refine avb ?_
  refine lns (x1.length : Int) ?_
  refine avb ?_
  refine brb h ?_ ?_<;>intro _ h
  ·refine idxp_sel h (fun x2 hx2 h => ?_)
   refine avb ?_
   refine ldp_sel hx2 ?_
   refine avb ?_
   refine plb ?_;refine call_sel (E := fun (x : (List (Int))) => DV.one (D.sl 1 (List.map Gx.encI x))) h (fun x3 h1 => (s_CellsOf_ok N v0 x2 h1)) (fun x3 hx3 h => ?_)
   refine avb ?_
   refine plb ?_;refine call_sel (E := fun (x : Bool) => DV.one (D.b x)) h (fun x4 h1 => (s_l8Has_ok N x3 v1 h1)) (fun x4 hx4 h => ?_)
   refine avb ?_
   refine brb h ?_ ?_<;>intro _ h
   ·refine app_sel h (app_ok (by (first|rfl|simp [sub])) (by (first|rfl|simp [sub])) (by decide)) (by (intro h; cases h)) (fun h => ?_)
    refine avb ?_
    exact lbk hfp1 h
   ·exact lbk hfp1 h
  ·have h := finr hfp1 h
   refine cut_at (p1.1) (some_in h) ?_
   exact weak_by
 rintro t5 rfl
 have h : _ = some _ := gt5
 refine avb ?_
 cases h;exact eq_by

theorem s_IsChecked_ok (N : Nat) (v0 : Gx.Grid) (v1 : Int) {r : Bool} (h : s_IsChecked N v0 v1 = some r) : Pure Tryz.prog 209 [DV.agg (Gx.Grid.enc v0), DV.one (D.i v1)] (DV.one (D.b r)) := by
 refine pure_of_walk Tryz.tok Tryz.mixed Tryz.func209 (by kernel_rfl) fun W => ?_
 unfold s_IsChecked at h
 refine avb ?_
 refine plb ?_;refine call_sel (E := fun (x : (List (Int))) => DV.one (D.sl 1 (List.map Gx.encI x))) h (fun x1 h1 => (s_SlotsAt_ok N v0 v1 h1)) (fun x1 hx1 h => ?_)
 refine avb ?_
 refine lns (x1.length : Int) ?_
 refine avb ?_
 cases h;exact eq_by

theorem s_UncheckedIn_ok (N : Nat) (v0 : Gx.Grid) (v1 : Int) {r : Int} (h : s_UncheckedIn N v0 v1 = some r) : Pure Tryz.prog 170 [DV.agg (Gx.Grid.enc v0), DV.one (D.i v1)] (DV.one (D.i r)) := by
 refine pure_of_walk Tryz.tok Tryz.mixed Tryz.func170 (by kernel_rfl) fun W => ?_
 unfold s_UncheckedIn at h
 refine avb ?_
 refine plb ?_;refine call_sel (E := fun (x : (List (Gx.Slot))) => DV.one (D.sl 4 (List.map Gx.Slot.enc x))) h (fun x1 h1 => (s_SlotsOf_ok N v0 h1)) (fun x1 hx1 h => ?_)
 refine avb ?_
 refine lns (x1.length : Int) ?_
 refine avb ?_
 refine plb ?_;refine call_sel (E := fun (x : Bool) => DV.one (D.b x)) h (fun x2 h1 => (s_l1In_ok N v1 0 (w64 ((x1.length : Int) - 1)) h1)) (fun x2 hx2 h => ?_)
 refine avb ?_
 refine brb h ?_ ?_<;>intro _ h
 ·cases h;exact eq_by
 ·refine idxp_sel h (fun x3 hx3 h => ?_)
  refine avb ?_
  refine ldp_sel hx3 ?_
  refine avb ?_
  refine plb ?_;refine call_sel (E := fun (x : (List (Int))) => DV.one (D.sl 1 (List.map Gx.encI x))) h (fun x4 h1 => (s_CellsOf_ok N v0 x3 h1)) (fun x4 hx4 h => ?_)
  refine ab0 ?_
  refine W.r_seq ?_
  refine ab0 ?_
  obtain ⟨zt7, h, gt7⟩ := bnd_some h
  refine W.r_cut (fun (t7 : Int) => ⟨[(7, .d (D.i t7))], [], 1000⟩) (fun t => t = zt7) ?_ ?_
  ·refine avb ?_
   refine loop_lp (fun (p1 : Int × Int) => ⟨[(2, .ptr 1 0 0), (6, .sl 2), (7, .d (D.i p1.1)), (8, .d (D.i p1.2))], [(1, some (.box [.d (D.i v0.mRows), .d (D.i v0.mCols), .d (D.s v0.mCells)])), (2, some (.arr 1 (List.map Gx.encI x4) true))], 1000⟩) h ?_ ?_
   ·exact weak_by
   intro np1 p1 yp1 h hfp1
   unfold s_UncheckedIn_L1 at h
   refine avb ?_
   refine lns (x4.length : Int) ?_
   refine avb ?_
   refine brb h ?_ ?_<;>intro _ h
   ·refine idxp_sel h (fun x5 hx5 h => ?_)
    refine avb ?_
    refine ldp_sel hx5 ?_
    refine avb ?_
    refine plb ?_;refine call_sel (E := fun (x : Bool) => DV.one (D.b x)) h (fun x6 h1 => (s_IsChecked_ok N v0 x5 h1)) (fun x6 hx6 h => ?_)
    refine avb ?_
    refine brb h ?_ ?_<;>intro _ h
    ·exact lbk hfp1 h
    ·exact lbk hfp1 h
   ·have h := finr hfp1 h
    refine cut_at (p1.1) (some_in h) ?_
    exact weak_by
  rintro t7 rfl
  have h : _ = some _ := gt7
  refine avb ?_
  cases h;exact eq_by

theorem s_IsWhite_ok (N : Nat) (v0 : Gx.Grid) (v1 : Int) {r : Bool} (h : s_IsWhite N v0 v1 = some r) : Pure Tryz.prog 171 [DV.agg (Gx.Grid.enc v0), DV.one (D.i v1)] (DV.one (D.b r)) := by
 refine pure_of_walk Tryz.tok Tryz.mixed Tryz.func171 (by kernel_rfl) fun W => ?_
 unfold s_IsWhite at h
 refine avb ?_
 refine plb ?_;refine call_sel (E := fun (x : Bool) => DV.one (D.b x)) h (fun x1 h1 => (s_IsGrid_ok N v0 h1)) (fun x1 hx1 h => ?_)
 refine avb ?_
 refine brb h ?_ ?_<;>intro _ h
 ·refine lns (v0.mCells.length : Int) ?_
  refine avb ?_
  refine plb ?_;refine call_sel (E := fun (x : Bool) => DV.one (D.b x)) h (fun x2 h1 => (s_l1In_ok N v1 0 (w64 ((v0.mCells.length : Int) - 1)) h1)) (fun x2 hx2 h => ?_)
  refine avb ?_
  refine brb h ?_ ?_<;>intro _ h
  ·refine chk_sel h (fun q => q) (fun h => ?_)
   refine avb ?_
   cases h;exact eq_by
  ·cases h;exact eq_by
 ·cases h;exact eq_by

theorem s_l10Alone_ok (N : Nat) (v0 : Gx.Grid) {r : Bool} (h : s_l10Alone N v0 = some r) : Pure Tryz.prog 134 [DV.agg (Gx.Grid.enc v0)] (DV.one (D.b r)) := by
 refine pure_of_walk Tryz.tok Tryz.mixed Tryz.func134 (by kernel_rfl) fun W => ?_
 unfold s_l10Alone at h
 refine avb ?_
 refine plb ?_;refine call_sel (E := fun (x : (List (Gx.Slot))) => DV.one (D.sl 4 (List.map Gx.Slot.enc x))) h (fun x1 h1 => (s_SlotsOf_ok N v0 h1)) (fun x1 hx1 h => ?_)
 refine ab0 ?_
 obtain ⟨zt4, h, gt4⟩ := cutb_some h
 refine W.r_cut (fun (t4 : Unit) => ⟨[(1, .ptr 1 0 0)], [(1, some (.box [.d (D.i v0.mRows), .d (D.i v0.mCols), .d (D.s v0.mCells)]))], 1000⟩) (fun t => .nx t = zt4) ?_ ?_
 ·refine avb ?_
  refine loop_lp (fun (p1 : Int) => ⟨[(1, .ptr 1 0 0), (3, .sl 2), (4, .d (D.i p1))], [(1, some (.box [.d (D.i v0.mRows), .d (D.i v0.mCols), .d (D.s v0.mCells)])), (2, some (.arr 4 (List.map Gx.Slot.enc x1) true))], 1000⟩) h ?_ ?_
  ·exact weak_by
  intro np1 p1 yp1 h hfp1
  unfold s_l10Alone_L1 at h
  refine avb ?_
  refine lns (x1.length : Int) ?_
  refine avb ?_
  refine brb h ?_ ?_<;>intro _ h
  ·refine plb ?_;refine call_sel (E := fun (x : Int) => DV.one (D.i x)) h (fun x2 h1 => (s_UncheckedIn_ok N v0 p1 h1)) (fun x2 hx2 h => ?_)
   refine avb ?_
   refine idxp_sel h (fun x3 hx3 h => ?_)
   refine avb ?_
   refine ldp_sel hx3 ?_
   refine avb ?_
   refine brb h ?_ ?_<;>intro _ h
   ·have h := finr hfp1 h
    have h := cutr gt4 h
    cases h;exact eq_by
   ·exact lbk hfp1 h
  ·have h := finr hfp1 h
   refine cut_at (()) (some_in h) ?_
   exact weak_by
 rintro t4 rfl
 have h : _ = some _ := gt4
 refine ab0 ?_
 obtain ⟨zt7, h, gt7⟩ := cutb_some h
 refine W.r_cut (fun (t7 : Unit) => ⟨[], [], 1000⟩) (fun t => .nx t = zt7) ?_ ?_
 ·refine avb ?_
  refine loop_lp (fun (p2 : Int) => ⟨[(1, .ptr 1 0 0), (5, .d (D.i p2))], [(1, some (.box [.d (D.i v0.mRows), .d (D.i v0.mCols), .d (D.s v0.mCells)]))], 1000⟩) h ?_ ?_
  ·exact weak_by
  intro np2 p2 yp2 h hfp2
  unfold s_l10Alone_L2 at h
  refine avb ?_
  refine lns (v0.mCells.length : Int) ?_
  refine avb ?_
  refine brb h ?_ ?_<;>intro _ h
  ·refine plb ?_;refine call_sel (E := fun (x : Bool) => DV.one (D.b x)) h (fun x5 h1 => (s_IsWhite_ok N v0 p2 h1)) (fun x5 hx5 h => ?_)
   refine avb ?_
   refine brb h ?_ ?_<;>intro _ h
   ·refine plb ?_;refine call_sel (E := fun (x : (List (Int))) => DV.one (D.sl 1 (List.map Gx.encI x))) h (fun x6 h1 => (s_SlotsAt_ok N v0 p2 h1)) (fun x6 hx6 h => ?_)
    refine avb ?_
    refine lns (x6.length : Int) ?_
    refine avb ?_
    refine brb h ?_ ?_<;>intro _ h
    ·have h := finr hfp2 h
     have h := cutr gt7 h
     cases h;exact eq_by
    ·exact lbk hfp2 h
   ·exact lbk hfp2 h
  ·have h := finr hfp2 h
   refine cut_at (()) (some_in h) ?_
   exact weak_by
 rintro t7 rfl
 have h : _ = some _ := gt7
 refine avb ?_
 cases h;exact eq_by

theorem s_FormOf_ok (N : Nat) (v0 : Gx.Grid) {r : Int} (h : s_FormOf N v0 = some r) : Pure Tryz.prog 93 [DV.agg (Gx.Grid.enc v0)] (DV.one (D.i r)) := by
 refine pure_of_walk Tryz.tok Tryz.mixed Tryz.func93 (by kernel_rfl) fun W => ?_
 unfold s_FormOf at h
 refine avb ?_
 refine plb ?_;refine call_sel (E := fun (x : Bool) => DV.one (D.b x)) h (fun x1 h1 => (s_IsGrid_ok N v0 h1)) (fun x1 hx1 h => ?_)
 refine avb ?_
 refine brb h ?_ ?_<;>intro _ h
 ·cases h;exact eq_by
 ·refine plb ?_;refine call_sel (E := fun (x : Bool) => DV.one (D.b x)) h (fun x2 h1 => (s_IsSymmetric_ok N v0 h1)) (fun x2 hx2 h => ?_)
  refine avb ?_
  refine brb h ?_ ?_<;>intro _ h
  ·cases h;exact eq_by
  ·refine plb ?_;refine call_sel (E := fun (x : Bool) => DV.one (D.b x)) h (fun x3 h1 => (s_IsConnected_ok N v0 h1)) (fun x3 hx3 h => ?_)
   refine avb ?_
   refine brb h ?_ ?_<;>intro _ h
   ·cases h;exact eq_by
   ·refine plb ?_;refine call_sel (E := fun (x : Bool) => DV.one (D.b x)) h (fun x4 h1 => (s_l10Short_ok N v0 h1)) (fun x4 hx4 h => ?_)
    refine avb ?_
    refine brb h ?_ ?_<;>intro _ h
    ·cases h;exact eq_by
    ·refine plb ?_;refine call_sel (E := fun (x : Bool) => DV.one (D.b x)) h (fun x5 h1 => (s_l10Alone_ok N v0 h1)) (fun x5 hx5 h => ?_)
     refine avb ?_
     refine brb h ?_ ?_<;>intro _ h
     ·cases h;exact eq_by
     ·cases h;exact eq_by

theorem s_EmptyFill_ok (N : Nat) (v0 : Gx.Grid) {r : (List UInt8)} (h : s_EmptyFill N v0 = some r) : Pure Tryz.prog 24 [DV.agg (Gx.Grid.enc v0)] (DV.one (D.s r)) := by
 refine pure_of_walk Tryz.tok Tryz.mixed Tryz.func24 (by kernel_rfl) fun W => ?_
 unfold s_EmptyFill at h
 refine ab0 ?_
 refine W.r_seq ?_
 refine ab0 ?_
 refine W.r_seq ?_
 refine ab0 ?_
 obtain ⟨zt2, h, gt2⟩ := bnd_some h
 refine W.r_cut (fun (t2 : (List UInt8)) => ⟨[(3, .d (D.s t2))], [], 1000⟩) (fun t => t = zt2) ?_ ?_
 ·refine avb ?_
  refine loop_lp (fun (p1 : (List UInt8) × Int) => ⟨[(1, .ptr 1 0 0), (3, .d (D.s p1.1)), (4, .d (D.i p1.2))], [(1, some (.box [.d (D.i v0.mRows), .d (D.i v0.mCols), .d (D.s v0.mCells)]))], 1000⟩) h ?_ ?_
  ·exact weak_by
  intro np1 p1 yp1 h hfp1
  unfold s_EmptyFill_L1 at h
  refine avb ?_
  refine lns (v0.mCells.length : Int) ?_
  refine avb ?_
  refine brb h ?_ ?_<;>intro _ h
  ·refine plb ?_;refine call_sel (E := fun (x : Bool) => DV.one (D.b x)) h (fun x1 h1 => (s_IsGrid_ok N v0 h1)) (fun x1 hx1 h => ?_)
   refine avb ?_
   refine brb h ?_ ?_<;>intro _ h
   ·refine chk_sel h (fun q => q) (fun h => ?_)
    refine avb ?_
    refine brb h ?_ ?_<;>intro _ h
    ·refine chk_sel h (fun q => Nat.le_trans q (by decide)) (fun h => ?_)
     refine avb ?_
     exact lbk hfp1 h
    ·refine chk_sel h (fun q => Nat.le_trans q (by decide)) (fun h => ?_)
     refine avb ?_
     exact lbk hfp1 h
   ·have h := finr hfp1 h
    refine cut_at (p1.1) (some_in h) ?_
    exact weak_by
  ·have h := finr hfp1 h
   refine cut_at (p1.1) (some_in h) ?_
   exact weak_by
 rintro t2 rfl
 have h : _ = some _ := gt2
 refine avb ?_
 cases h;exact eq_by

theorem s_NewDraft_ok (N : Nat) (v0 : Gx.Grid) {r : Gx.Draft × Bool} (h : s_NewDraft N v0 = some r) : Pure Tryz.prog 44 [DV.agg (Gx.Grid.enc v0)] (DV.tup [DV.agg (Gx.Draft.enc r.1), DV.one (D.b r.2)]) := by
 refine pure_of_walk Tryz.tok Tryz.mixed Tryz.func44 (by kernel_rfl) fun W => ?_
 unfold s_NewDraft at h
 refine avb ?_
 refine plb ?_;refine call_sel (E := fun (x : Int) => DV.one (D.i x)) h (fun x1 h1 => (s_FormOf_ok N v0 h1)) (fun x1 hx1 h => ?_)
 refine avb ?_
 refine brb h ?_ ?_<;>intro _ h
 ·cases h;exact eq_by
 ·refine plb ?_;refine call_sel (E := fun (x : (List UInt8)) => DV.one (D.s x)) h (fun x2 h1 => (s_EmptyFill_ok N v0 h1)) (fun x2 hx2 h => ?_)
  refine ab0 ?_
  obtain ⟨zt4, h, gt4⟩ := bnd_some h
  refine W.r_cut (fun (t4 : (List (Gx.Clue))) => ⟨[(2, .ptr 1 0 0), (4, .ptr 2 0 0)], [(1, some (.box [.d (D.i 0), .d (D.i 0), .d (D.s ([] : List UInt8)), .d (D.s ([] : List UInt8)), .nil 2, .d (D.i 0)])), (2, some (.box [.d (D.i v0.mRows), .d (D.i v0.mCols), .d (D.s v0.mCells), .d (D.s x2), .sl 3, .d (D.i 1)])), (3, some (.arr 2 (List.map Gx.Clue.enc t4) true))], 1000⟩) (fun t => t = zt4) ?_ ?_
  ·refine avb ?_
   refine loop_lp (fun (p1 : (List (Gx.Clue)) × Int) => ⟨[(1, .ptr 1 0 0), (2, .ptr 2 0 0), (4, .ptr 3 0 0), (5, .d (D.i p1.2))], [(1, some (.box [.d (D.i v0.mRows), .d (D.i v0.mCols), .d (D.s v0.mCells)])), (2, some (.box [.d (D.i 0), .d (D.i 0), .d (D.s ([] : List UInt8)), .d (D.s ([] : List UInt8)), .nil 2, .d (D.i 0)])), (3, some (.box [.d (D.i v0.mRows), .d (D.i v0.mCols), .d (D.s v0.mCells), .d (D.s x2), .sl 4, .d (D.i 1)])), (4, some (.arr 2 (List.map Gx.Clue.enc p1.1) true))], 1000⟩) h ?_ ?_
   ·exact weak_by
   intro np1 p1 yp1 h hfp1
   unfold s_NewDraft_L1 at h
   refine avb ?_
   refine plb ?_;refine call_sel (E := fun (x : (List (Gx.Slot))) => DV.one (D.sl 4 (List.map Gx.Slot.enc x))) h (fun x3 h1 => (s_SlotsOf_ok N v0 h1)) (fun x3 hx3 h => ?_)
   refine avb ?_
   refine lns (x3.length : Int) ?_
   refine avb ?_
   refine brb h ?_ ?_<;>intro _ h
   ·refine app_sel h (app_ok (by (first|rfl|simp [sub])) (by (first|rfl|simp [sub])) (by decide)) (by (intro h; cases h)) (fun h => ?_)
    refine avb ?_
    exact lbk hfp1 h
   ·have h := finr hfp1 h
    refine cut_at (p1.1) (some_in h) ?_
    exact weak_by
  rintro t4 rfl
  have h : _ = some _ := gt4
  refine avb ?_
  refine plb ?_;refine call_sel (E := fun (x : Gx.Draft) => DV.agg (Gx.Draft.enc x)) h (fun x5 h1 => (s_l27Copy_ok N (⟨(⟨v0.mRows, v0.mCols, v0.mCells⟩ : Gx.Grid), x2, t4, 1⟩ : Gx.Draft) h1)) (fun x5 hx5 h => ?_)
  refine avb ?_
  cases h;exact eq_by

theorem s_StepDesk_ok (N : Nat) (v0 : Gx.House) (v1 : Gx.Grid) {r : Gx.House × Bool} (h : s_StepDesk N v0 v1 = some r) : Pure Tryz.prog 11 [DV.agg (Gx.House.enc v0), DV.agg (Gx.Grid.enc v1)] (DV.tup [DV.agg (Gx.House.enc r.1), DV.one (D.b r.2)]) := by
 refine pure_of_walk Tryz.tok Tryz.mixed Tryz.func11 (by kernel_rfl) fun W => ?_
 unfold s_StepDesk at h
 refine avb ?_
 refine plb ?_;refine call_sel (E := fun (x : Gx.House) => DV.agg (Gx.House.enc x)) h (fun x1 h1 => (s_l33Copy_ok N v0 h1)) (fun x1 hx1 h => ?_)
 refine avb ?_
 refine plb ?_;refine call_sel (E := fun (x : Gx.Draft × Bool) => DV.tup [DV.agg (Gx.Draft.enc x.1), DV.one (D.b x.2)]) h (fun x2 h1 => (s_NewDraft_ok N v1 h1)) (fun x2 hx2 h => ?_)
 refine avb ?_
 refine brb h ?_ ?_<;>intro _ h
 ·cases h;exact eq_by
 ·cases h;exact eq_by

theorem i_copyClue_ok (N : Nat) (v0 : Gx.Clue) {r : Gx.Clue} (h : i_copyClue N v0 = some r) : Pure Tryz.prog 138 [DV.agg (Gx.Clue.enc v0)] (DV.agg (Gx.Clue.enc r)) := by
 refine pure_of_walk Tryz.tok Tryz.mixed Tryz.func138 (by kernel_rfl) fun W => ?_
 unfold i_copyClue at h
 refine avb ?_
 refine plb ?_;refine call_sel (E := fun (x : (List (Gx.Step))) => DV.one (D.sl 4 (List.map Gx.Step.enc x))) h (fun x1 h1 => (g_slices_Clone_Simpl_Step_impl_Step_ok N v0.mPlay h1)) (fun x1 hx1 h => ?_)
 refine avb ?_
 cases h;exact eq_by

theorem i_copyClues_ok (N : Nat) (v0 : List (Gx.Clue)) {r : (List (Gx.Clue))} (h : i_copyClues N v0 = some r) : Pure Tryz.prog 136 [DV.one (D.sl 2 (List.map Gx.Clue.enc v0))] (DV.one (D.sl 2 (List.map Gx.Clue.enc r))) := by
 refine pure_of_walk Tryz.tok Tryz.mixed Tryz.func136 (by kernel_rfl) fun W => ?_
 unfold i_copyClues at h
 refine ab0 ?_
 refine W.r_seq ?_
 refine ab0 ?_
 refine W.r_seq ?_
 refine ab0 ?_
 obtain ⟨zt3, h, gt3⟩ := bnd_some h
 refine W.r_cut (fun (t3 : (List (Gx.Clue))) => ⟨[(3, .sl 1)], [(1, some (.arr 2 (List.map Gx.Clue.enc t3) true))], 1000⟩) (fun t => t = zt3) ?_ ?_
 ·refine avb ?_
  refine lns (v0.length : Int) ?_
  refine avb ?_
  refine loop_lp (fun (p1 : (List (Gx.Clue)) × Int) => ⟨[(3, .sl 1), (6, .d (D.sl 2 (List.map Gx.Clue.enc v0))), (7, .d (D.i (v0.length : Int))), (8, .d (D.i p1.2))], [(1, some (.arr 2 (List.map Gx.Clue.enc p1.1) true))], 1000⟩) h ?_ ?_
  ·exact weak_by
  intro np1 p1 yp1 h hfp1
  unfold i_copyClues_L1 at h
  refine avb ?_
  refine brb h ?_ ?_<;>intro _ h
  ·refine idx_sel h (fun x1 hx1 h => ?_)
   refine avb ?_
   refine plb ?_;refine call_sel (E := fun (x : Gx.Clue) => DV.agg (Gx.Clue.enc x)) h (fun x2 h1 => (i_copyClue_ok N x1 h1)) (fun x2 hx2 h => ?_)
   refine avb ?_
   refine app_sel h (app_ok (by (first|rfl|simp [sub])) (by (first|rfl|simp [sub])) (by decide)) (by (intro h; cases h)) (fun h => ?_)
   refine avb ?_
   exact lbk hfp1 h
  ·have h := finr hfp1 h
   refine cut_at (p1.1) (some_in h) ?_
   exact weak_by
 rintro t3 rfl
 have h : _ = some _ := gt3
 refine avb ?_
 cases h;exact eq_by

theorem i_copyDraft_ok (N : Nat) (v0 : Gx.Draft) {r : Gx.Draft} (h : i_copyDraft N v0 = some r) : Pure Tryz.prog 97 [DV.agg (Gx.Draft.enc v0)] (DV.agg (Gx.Draft.enc r)) := by
 refine pure_of_walk Tryz.tok Tryz.mixed Tryz.func97 (by kernel_rfl) fun W => ?_
 unfold i_copyDraft at h
 refine avb ?_
 refine plb ?_;refine call_sel (E := fun (x : (List (Gx.Clue))) => DV.one (D.sl 2 (List.map Gx.Clue.enc x))) h (fun x1 h1 => (i_copyClues_ok N v0.mClues h1)) (fun x1 hx1 h => ?_)
 refine avb ?_
 cases h;exact eq_by

theorem i_copyPuzzle_ok (N : Nat) (v0 : Gx.Puzzle) {r : Gx.Puzzle} (h : i_copyPuzzle N v0 = some r) : Pure Tryz.prog 137 [DV.agg (Gx.Puzzle.enc v0)] (DV.agg (Gx.Puzzle.enc r)) := by
 refine pure_of_walk Tryz.tok Tryz.mixed Tryz.func137 (by kernel_rfl) fun W => ?_
 unfold i_copyPuzzle at h
 refine avb ?_
 refine plb ?_;refine call_sel (E := fun (x : (List (Gx.Clue))) => DV.one (D.sl 2 (List.map Gx.Clue.enc x))) h (fun x1 h1 => (i_copyClues_ok N v0.mClues h1)) (fun x1 hx1 h => ?_)
 refine avb ?_
 refine plb ?_;refine call_sel (E := fun (x : (List (Int))) => DV.one (D.sl 1 (List.map Gx.encI x))) h (fun x2 h1 => (g_slices_Clone_Sint_int_ok N v0.mSeals h1)) (fun x2 hx2 h => ?_)
 refine avb ?_
 cases h;exact eq_by

theorem i_copyIssue_ok (N : Nat) (v0 : Gx.Issue) {r : Gx.Issue} (h : i_copyIssue N v0 = some r) : Pure Tryz.prog 98 [DV.agg (Gx.Issue.enc v0)] (DV.agg (Gx.Issue.enc r)) := by
 refine pure_of_walk Tryz.tok Tryz.mixed Tryz.func98 (by kernel_rfl) fun W => ?_
 unfold i_copyIssue at h
 refine avb ?_
 refine plb ?_;refine call_sel (E := fun (x : Gx.Puzzle) => DV.agg (Gx.Puzzle.enc x)) h (fun x1 h1 => (i_copyPuzzle_ok N v0.mPuzzle h1)) (fun x1 hx1 h => ?_)
 refine avb ?_
 cases h;exact eq_by

theorem i_copyCorrections_ok (N : Nat) (v0 : List (Gx.Correction)) {r : (List (Gx.Correction))} (h : i_copyCorrections N v0 = some r) : Pure Tryz.prog 100 [DV.one (D.sl 5 (List.map Gx.Correction.enc v0))] (DV.one (D.sl 5 (List.map Gx.Correction.enc r))) := by
 refine pure_of_walk Tryz.tok Tryz.mixed Tryz.func100 (by kernel_rfl) fun W => ?_
 unfold i_copyCorrections at h
 refine ab0 ?_
 refine W.r_seq ?_
 refine ab0 ?_
 refine W.r_seq ?_
 refine ab0 ?_
 obtain ⟨zt3, h, gt3⟩ := bnd_some h
 refine W.r_cut (fun (t3 : (List (Gx.Correction))) => ⟨[(3, .sl 1)], [(1, some (.arr 5 (List.map Gx.Correction.enc t3) true))], 1000⟩) (fun t => t = zt3) ?_ ?_
 ·refine avb ?_
  refine lns (v0.length : Int) ?_
  refine avb ?_
  refine loop_lp (fun (p1 : (List (Gx.Correction)) × Int) => ⟨[(3, .sl 1), (6, .d (D.sl 5 (List.map Gx.Correction.enc v0))), (7, .d (D.i (v0.length : Int))), (8, .d (D.i p1.2))], [(1, some (.arr 5 (List.map Gx.Correction.enc p1.1) true))], 1000⟩) h ?_ ?_
  ·exact weak_by
  intro np1 p1 yp1 h hfp1
  unfold i_copyCorrections_L1 at h
  refine avb ?_
  refine brb h ?_ ?_<;>intro _ h
  ·refine idx_sel h (fun x1 hx1 h => ?_)
   refine avb ?_
   refine plb ?_;refine call_sel (E := fun (x : Gx.Clue) => DV.agg (Gx.Clue.enc x)) h (fun x2 h1 => (i_copyClue_ok N x1.mClue h1)) (fun x2 hx2 h => ?_)
   refine avb ?_
   refine app_sel h (app_ok (by (first|rfl|simp [sub])) (by (first|rfl|simp [sub])) (by decide)) (by (intro h; cases h)) (fun h => ?_)
   refine avb ?_
   exact lbk hfp1 h
  ·have h := finr hfp1 h
   refine cut_at (p1.1) (some_in h) ?_
   exact weak_by
 rintro t3 rfl
 have h : _ = some _ := gt3
 refine avb ?_
 cases h;exact eq_by

theorem i_copyHouse_ok (N : Nat) (v0 : Gx.House) {r : Gx.House} (h : i_copyHouse N v0 = some r) : Pure Tryz.prog 45 [DV.agg (Gx.House.enc v0)] (DV.agg (Gx.House.enc r)) := by
 refine pure_of_walk Tryz.tok Tryz.mixed Tryz.func45 (by kernel_rfl) fun W => ?_
 unfold i_copyHouse at h
 refine avb ?_
 refine plb ?_;refine call_sel (E := fun (x : (List (Gx.Listed))) => DV.one (D.sl 4 (List.map Gx.Listed.enc x))) h (fun x1 h1 => (g_slices_Clone_Simpl_Listed_impl_Listed_ok N v0.mList h1)) (fun x1 hx1 h => ?_)
 refine avb ?_
 refine plb ?_;refine call_sel (E := fun (x : (List (Gx.Meaning))) => DV.one (D.sl 2 (List.map Gx.Meaning.enc x))) h (fun x2 h1 => (g_slices_Clone_Simpl_Meaning_impl_Meaning_ok N v0.mDict h1)) (fun x2 hx2 h => ?_)
 refine avb ?_
 refine plb ?_;refine call_sel (E := fun (x : Gx.Draft) => DV.agg (Gx.Draft.enc x)) h (fun x3 h1 => (i_copyDraft_ok N v0.mDesk h1)) (fun x3 hx3 h => ?_)
 refine ab0 ?_
 refine W.r_seq ?_
 refine ab0 ?_
 obtain ⟨zt6, h, gt6⟩ := bnd_some h
 refine W.r_cut (fun (t6 : (List (Gx.Issue))) => ⟨[(1, .ptr 1 0 0), (2, .ptr 5 0 0), (3, .sl 6)], [(1, some (.box [.sl 2, .sl 3, .d (D.i x3.mGrid.mRows), .d (D.i x3.mGrid.mCols), .d (D.s x3.mGrid.mCells), .d (D.s x3.mFill), .sl 4, .d (D.i x3.mVersion), .d (D.sl 10 (List.map Gx.Issue.enc v0.mIssues)), .d (D.sl 2 (List.map Gx.Used.enc v0.mUses)), .d (D.sl 5 (List.map Gx.Correction.enc v0.mCorrections)), .d (D.sl 4 (List.map Gx.Entry.enc v0.mEntries)), .d (D.i v0.mNow)])), (2, some (.arr 4 (List.map Gx.Listed.enc x1) true)), (3, some (.arr 2 (List.map Gx.Meaning.enc x2) true)), (4, some (.arr 2 (List.map Gx.Clue.enc x3.mClues) true)), (5, some (.box [.d (D.sl 4 (List.map Gx.Listed.enc ([]))), .d (D.sl 2 (List.map Gx.Meaning.enc ([]))), .d (D.i 0), .d (D.i 0), .d (D.s ([] : List UInt8)), .d (D.s ([] : List UInt8)), .d (D.sl 2 (List.map Gx.Clue.enc ([]))), .d (D.i 0), .d (D.sl 10 (List.map Gx.Issue.enc ([]))), .d (D.sl 2 (List.map Gx.Used.enc ([]))), .d (D.sl 5 (List.map Gx.Correction.enc ([]))), .d (D.sl 4 (List.map Gx.Entry.enc ([]))), .d (D.i 0)])), (6, some (.arr 10 (List.map Gx.Issue.enc t6) true))], 1000⟩) (fun t => t = zt6) ?_ ?_
 ·refine avb ?_
  refine lns (v0.mIssues.length : Int) ?_
  refine avb ?_
  refine loop_lp (fun (p1 : (List (Gx.Issue)) × Int) => ⟨[(1, .ptr 1 0 0), (2, .ptr 5 0 0), (3, .sl 6), (19, .d (D.sl 10 (List.map Gx.Issue.enc v0.mIssues))), (20, .d (D.i (v0.mIssues.length : Int))), (21, .d (D.i p1.2))], [(1, some (.box [.sl 2, .sl 3, .d (D.i x3.mGrid.mRows), .d (D.i x3.mGrid.mCols), .d (D.s x3.mGrid.mCells), .d (D.s x3.mFill), .sl 4, .d (D.i x3.mVersion), .d (D.sl 10 (List.map Gx.Issue.enc v0.mIssues)), .d (D.sl 2 (List.map Gx.Used.enc v0.mUses)), .d (D.sl 5 (List.map Gx.Correction.enc v0.mCorrections)), .d (D.sl 4 (List.map Gx.Entry.enc v0.mEntries)), .d (D.i v0.mNow)])), (2, some (.arr 4 (List.map Gx.Listed.enc x1) true)), (3, some (.arr 2 (List.map Gx.Meaning.enc x2) true)), (4, some (.arr 2 (List.map Gx.Clue.enc x3.mClues) true)), (5, some (.box [.d (D.sl 4 (List.map Gx.Listed.enc ([]))), .d (D.sl 2 (List.map Gx.Meaning.enc ([]))), .d (D.i 0), .d (D.i 0), .d (D.s ([] : List UInt8)), .d (D.s ([] : List UInt8)), .d (D.sl 2 (List.map Gx.Clue.enc ([]))), .d (D.i 0), .d (D.sl 10 (List.map Gx.Issue.enc ([]))), .d (D.sl 2 (List.map Gx.Used.enc ([]))), .d (D.sl 5 (List.map Gx.Correction.enc ([]))), .d (D.sl 4 (List.map Gx.Entry.enc ([]))), .d (D.i 0)])), (6, some (.arr 10 (List.map Gx.Issue.enc p1.1) true))], 1000⟩) h ?_ ?_
  ·exact weak_by
  intro np1 p1 yp1 h hfp1
  unfold i_copyHouse_L1 at h
  refine avb ?_
  refine brb h ?_ ?_<;>intro _ h
  ·refine idx_sel h (fun x4 hx4 h => ?_)
   refine avb ?_
   refine plb ?_;refine call_sel (E := fun (x : Gx.Issue) => DV.agg (Gx.Issue.enc x)) h (fun x5 h1 => (i_copyIssue_ok N x4 h1)) (fun x5 hx5 h => ?_)
   refine avb ?_
   refine app_sel h (app_ok (by (first|rfl|simp [sub])) (by (first|rfl|simp [sub])) (by decide)) (by (intro h; cases h)) (fun h => ?_)
   refine avb ?_
   exact lbk hfp1 h
  ·have h := finr hfp1 h
   refine cut_at (p1.1) (some_in h) ?_
   exact weak_by
 rintro t6 rfl
 have h : _ = some _ := gt6
 refine avb ?_
 refine plb ?_;refine call_sel (E := fun (x : (List (Gx.Used))) => DV.one (D.sl 2 (List.map Gx.Used.enc x))) h (fun x7 h1 => (g_slices_Clone_Simpl_Used_impl_Used_ok N v0.mUses h1)) (fun x7 hx7 h => ?_)
 refine avb ?_
 refine plb ?_;refine call_sel (E := fun (x : (List (Gx.Correction))) => DV.one (D.sl 5 (List.map Gx.Correction.enc x))) h (fun x8 h1 => (i_copyCorrections_ok N v0.mCorrections h1)) (fun x8 hx8 h => ?_)
 refine avb ?_
 refine plb ?_;refine call_sel (E := fun (x : (List (Gx.Entry))) => DV.one (D.sl 4 (List.map Gx.Entry.enc x))) h (fun x9 h1 => (g_slices_Clone_Simpl_Entry_impl_Entry_ok N v0.mEntries h1)) (fun x9 hx9 h => ?_)
 refine avb ?_
 cases h;exact eq_by

theorem i_InRange_ok (N : Nat) (v0 : Int) (v1 : Int) (v2 : Int) {r : Bool} (h : i_InRange N v0 v1 v2 = some r) : Pure Tryz.prog 120 [DV.one (D.i v0), DV.one (D.i v1), DV.one (D.i v2)] (DV.one (D.b r)) := by
 refine pure_of_walk Tryz.tok Tryz.mixed Tryz.func120 (by kernel_rfl) fun W => ?_
 unfold i_InRange at h
 refine avb ?_
 refine brb h ?_ ?_<;>intro _ h
 ·cases h;exact eq_by
 ·cases h;exact eq_by

theorem i_IsGrid_ok (N : Nat) (v0 : Gx.Grid) {r : Bool} (h : i_IsGrid N v0 = some r) : Pure Tryz.prog 79 [DV.agg (Gx.Grid.enc v0)] (DV.one (D.b r)) := by
 refine pure_of_walk Tryz.tok Tryz.mixed Tryz.func79 (by kernel_rfl) fun W => ?_
 unfold i_IsGrid at h
 refine avb ?_
 refine plb ?_;refine call_sel (E := fun (x : Bool) => DV.one (D.b x)) h (fun x1 h1 => (i_InRange_ok N v0.mRows 2 6 h1)) (fun x1 hx1 h => ?_)
 refine avb ?_
 refine brb h ?_ ?_<;>intro _ h
 ·cases h;exact eq_by
 ·refine plb ?_;refine call_sel (E := fun (x : Bool) => DV.one (D.b x)) h (fun x2 h1 => (i_InRange_ok N v0.mCols 2 6 h1)) (fun x2 hx2 h => ?_)
  refine avb ?_
  refine brb h ?_ ?_<;>intro _ h
  ·cases h;exact eq_by
  ·refine lns (v0.mCells.length : Int) ?_
   refine avb ?_
   refine br_sel h (fun _ h => ?_) (fun _ h => ?_)
   ·refine avb ?_
    cases h;exact eq_by
   ·refine ab0 ?_
    obtain ⟨zt3, h, gt3⟩ := cutb_some h
    refine W.r_cut (fun (t3 : Unit) => ⟨[], [], 1000⟩) (fun t => .nx t = zt3) ?_ ?_
    ·refine avb ?_
     refine lns (v0.mCells.length : Int) ?_
     refine avb ?_
     refine loop_lp (fun (p1 : Int) => ⟨[(1, .ptr 1 0 0), (27, .d (D.i (v0.mCells.length : Int))), (28, .d (D.i p1))], [(1, some (.box [.d (D.i v0.mRows), .d (D.i v0.mCols), .d (D.s v0.mCells)]))], 1000⟩) h ?_ ?_
     ·exact weak_by
     intro np1 p1 yp1 h hfp1
     unfold i_IsGrid_L1 at h
     refine avb ?_
     refine brb h ?_ ?_<;>intro _ h
     ·refine chk_sel h (fun q => q) (fun h => ?_)
      refine avb ?_
      refine brb h ?_ ?_<;>intro _ h
      ·refine chk_sel h (fun q => q) (fun h => ?_)
       refine avb ?_
       refine brb h ?_ ?_<;>intro _ h
       ·have h := finr hfp1 h
        have h := cutr gt3 h
        cases h;exact eq_by
       ·exact lbk hfp1 h
      ·exact lbk hfp1 h
     ·have h := finr hfp1 h
      refine cut_at (()) (some_in h) ?_
      exact weak_by
    rintro t3 rfl
    have h : _ = some _ := gt3
    refine avb ?_
    cases h;exact eq_by

theorem g_slices_Reverse_Sbyte_byte_ok (N : Nat) (v0 : List (UInt8)) {r : (List (UInt8))} (h : g_slices_Reverse_Sbyte_byte N v0 = some r) : Turn Tryz.prog 227 [.sl 0] [.arr 1 (List.map encU v0) true] [some (.arr 1 (List.map encU r) true)] (.tup []) := by
 refine turn_of_walk Tryz.tok Tryz.mixed Tryz.func227 (by kernel_rfl) rfl fun W => ?_
 unfold g_slices_Reverse_Sbyte_byte at h
 refine avb ?_
 refine lns (v0.length : Int) ?_
 refine avb ?_
 refine loop_lp (fun (p1 : (List (UInt8)) × Int × Int) => ⟨[(0, .sl 1), (2, .d (D.i p1.2.1)), (3, .d (D.i p1.2.2))], [(1, some (.arr 1 (List.map encU p1.1) true)), (990, some (.pin [.sl 1]))], 1000⟩) h ?_ ?_
 ·exact weak_by
 intro np1 p1 yp1 h hfp1
 unfold g_slices_Reverse_Sbyte_byte_L1 at h
 refine avb ?_
 refine brb h ?_ ?_<;>intro _ h
 ·refine idxp_sel h (fun x1 hx1 h => ?_)
  refine avb ?_
  refine ldp_sel hx1 ?_
  refine avb ?_
  refine idxp_sel h (fun x2 hx2 h => ?_)
  refine avb ?_
  refine ldp_sel hx2 ?_
  refine avb ?_
  refine idxp_sel h (fun x3 hx3 h => ?_)
  refine avb ?_
  refine ldp_sel hx3 ?_
  refine avb ?_
  refine idxp_raw (show _ = List.map encU (List.set p1.1 (Int.toNat p1.2.1) x1) by (exact eq_by)) h (fun x4 hx4 h => ?_)
  refine avb ?_
  refine ldp_raw (show _ = List.map encU (List.set p1.1 (Int.toNat p1.2.1) x1) by (exact eq_by)) hx4 ?_
  refine avb ?_
  exact lbk hfp1 h
 ·have h := finr hfp1 h
  obtain rfl := some_in h
  exact ⟨cons_eq (some_arr (by (exact eq_by))) (rfl), by (exact eq_by)⟩

theorem i_Backwards_ok (N : Nat) (v0 : List UInt8) {r : (List UInt8)} (h : i_Backwards N v0 = some r) : Pure Tryz.prog 211 [DV.one (D.s v0)] (DV.one (D.s r)) := by
 refine pure_of_walk Tryz.tok Tryz.mixed Tryz.func211 (by kernel_rfl) fun W => ?_
 unfold i_Backwards at h
 refine avb ?_
 refine lns (v0.length : Int) ?_
 refine avb ?_
 refine brb h ?_ ?_<;>intro _ h
 ·cases h;exact eq_by
 ·refine chk_sel h (fun q => Nat.le_trans q (by decide)) (fun h => ?_)
  refine avb ?_
  refine qtb ?_;refine turn_sel (O := fun (x1 : (List (UInt8))) => [some (.arr 1 (List.map encU x1) true)]) (V := fun (x1 : (List (UInt8))) => .tup []) h ⟨flat_map (fun _ => rfl), trivial⟩ (fun x1 h1 => (g_slices_Reverse_Sbyte_byte_ok N v0 h1)) (fun x1 hx1 h => ?_)
  refine avb ?_
  refine ⟨x1, (by (exact eq_by)), ?_⟩
  refine avb ?_
  cases h;exact eq_by

theorem i_TurnGrid_ok (N : Nat) (v0 : Gx.Grid) {r : Gx.Grid} (h : i_TurnGrid N v0 = some r) : Pure Tryz.prog 175 [DV.agg (Gx.Grid.enc v0)] (DV.agg (Gx.Grid.enc r)) := by
 refine pure_of_walk Tryz.tok Tryz.mixed Tryz.func175 (by kernel_rfl) fun W => ?_
 unfold i_TurnGrid at h
 refine avb ?_
 refine plb ?_;refine call_sel (E := fun (x : Bool) => DV.one (D.b x)) h (fun x1 h1 => (i_IsGrid_ok N v0 h1)) (fun x1 hx1 h => ?_)
 refine avb ?_
 refine brb h ?_ ?_<;>intro _ h
 ·cases h;exact eq_by
 ·refine plb ?_;refine call_sel (E := fun (x : (List UInt8)) => DV.one (D.s x)) h (fun x2 h1 => (i_Backwards_ok N v0.mCells h1)) (fun x2 hx2 h => ?_)
  refine avb ?_
  cases h;exact eq_by

theorem i_IsSymmetric_ok (N : Nat) (v0 : Gx.Grid) {r : Bool} (h : i_IsSymmetric N v0 = some r) : Pure Tryz.prog 139 [DV.agg (Gx.Grid.enc v0)] (DV.one (D.b r)) := by
 refine pure_of_walk Tryz.tok Tryz.mixed Tryz.func139 (by kernel_rfl) fun W => ?_
 unfold i_IsSymmetric at h
 refine avb ?_
 refine plb ?_;refine call_sel (E := fun (x : Bool) => DV.one (D.b x)) h (fun x1 h1 => (i_IsGrid_ok N v0 h1)) (fun x1 hx1 h => ?_)
 refine avb ?_
 refine brb h ?_ ?_<;>intro _ h
 ·refine plb ?_;refine call_sel (E := fun (x : Gx.Grid) => DV.agg (Gx.Grid.enc x)) h (fun x2 h1 => (i_TurnGrid_ok N v0 h1)) (fun x2 hx2 h => ?_)
  refine avb ?_
  cases h;exact eq_by
 ·cases h;exact eq_by

theorem i_at_ok (N : Nat) (v0 : Int) (v1 : Int) {r : Bool} (h : i_at N v0 v1 = some r) : Pure Tryz.prog 178 [DV.one (D.i v0), DV.one (D.i v1)] (DV.one (D.b r)) := by
 refine pure_of_walk Tryz.tok Tryz.mixed Tryz.func178 (by kernel_rfl) fun W => ?_
 unfold i_at at h
 refine avb ?_
 refine brb h ?_ ?_<;>intro _ h
 ·cases h;exact eq_by
 ·cases h;exact eq_by

theorem i_PartsOf_1_B_ok (N : Nat) (r_i_PartsOf_1 : Int → Int → Gx.Grid → (List (Bool)) → Option ((List (Bool)))) (hr_i_PartsOf_1 : ∀ a0 a1 a2 a3 r, r_i_PartsOf_1 a0 a1 a2 a3 = some r → Turn Tryz.prog 212 [.d (D.i a0), .d (D.i a1), .ptr 0 0 0, .ptr 1 0 0, .ptr 2 0 0] [.box [.d (D.i a2.mRows), .d (D.i a2.mCols), .d (D.s a2.mCells)], .box [.sl 3], .box [.fn 212 [.ptr 0 0 0, .ptr 1 0 0, .ptr 2 0 0]], .arr 1 (List.map Gx.encB a3) true] [some (.box [.d (D.i a2.mRows), .d (D.i a2.mCols), .d (D.s a2.mCells)]), some (.box [.sl 3]), some (.box [.fn 212 [.ptr 0 0 0, .ptr 1 0 0, .ptr 2 0 0]]), some (.arr 1 (List.map Gx.encB r) true)] (.tup [])) (v0 : Int) (v1 : Int) (c0 : Gx.Grid) (c1 : List (Bool)) {r : (List (Bool))} (h : i_PartsOf_1_B N r_i_PartsOf_1 v0 v1 c0 c1 = some r) : Turn Tryz.prog 212 [.d (D.i v0), .d (D.i v1), .ptr 0 0 0, .ptr 1 0 0, .ptr 2 0 0] [.box [.d (D.i c0.mRows), .d (D.i c0.mCols), .d (D.s c0.mCells)], .box [.sl 3], .box [.fn 212 [.ptr 0 0 0, .ptr 1 0 0, .ptr 2 0 0]], .arr 1 (List.map Gx.encB c1) true] [some (.box [.d (D.i c0.mRows), .d (D.i c0.mCols), .d (D.s c0.mCells)]), some (.box [.sl 3]), some (.box [.fn 212 [.ptr 0 0 0, .ptr 1 0 0, .ptr 2 0 0]]), some (.arr 1 (List.map Gx.encB r) true)] (.tup []) := by
 refine turn_of_walk Tryz.tok Tryz.mixed Tryz.func212 (by kernel_rfl) rfl fun W => ?_
 unfold i_PartsOf_1_B at h
 refine avb ?_
 refine plb ?_;refine call_sel (E := fun (x : Bool) => DV.one (D.b x)) h (fun x1 h1 => (i_at_ok N v0 c0.mRows h1)) (fun x1 hx1 h => ?_)
 refine avb ?_
 refine brb h ?_ ?_<;>intro _ h
 ·obtain rfl := some_in h
  exact ⟨cons_eq rfl (cons_eq rfl (cons_eq rfl (cons_eq (some_arr (by (exact eq_by))) (rfl)))), by (exact eq_by)⟩
 ·refine plb ?_;refine call_sel (E := fun (x : Bool) => DV.one (D.b x)) h (fun x2 h1 => (i_at_ok N v1 c0.mCols h1)) (fun x2 hx2 h => ?_)
  refine avb ?_
  refine brb h ?_ ?_<;>intro _ h
  ·obtain rfl := some_in h
   exact ⟨cons_eq rfl (cons_eq rfl (cons_eq rfl (cons_eq (some_arr (by (exact eq_by))) (rfl)))), by (exact eq_by)⟩
  ·refine idxp_sel h (fun x3 hx3 h => ?_)
   refine avb ?_
   refine ldp_sel hx3 ?_
   refine avb ?_
   refine brb h ?_ ?_<;>intro _ h
   ·obtain rfl := some_in h
    exact ⟨cons_eq rfl (cons_eq rfl (cons_eq rfl (cons_eq (some_arr (by (exact eq_by))) (rfl)))), by (exact eq_by)⟩
   ·refine chk_sel h (fun q => q) (fun h => ?_)
    refine avb ?_
    refine brb h ?_ ?_<;>intro _ h
    ·obtain rfl := some_in h
     exact ⟨cons_eq rfl (cons_eq rfl (cons_eq rfl (cons_eq (some_arr (by (exact eq_by))) (rfl)))), by (exact eq_by)⟩
    ·refine idxp_sel h (fun x4 hx4 h => ?_)
     refine avb ?_
     refine ldp_sel hx4 ?_
     refine avb ?_
     refine qtb ?_;refine turn_sel (O := fun (x5 : (List (Bool))) => [some (.box [.d (D.i c0.mRows), .d (D.i c0.mCols), .d (D.s c0.mCells)]), some (.box [.sl 3]), some (.box [.fn 212 [.ptr 0 0 0, .ptr 1 0 0, .ptr 2 0 0]]), some (.arr 1 (List.map Gx.encB x5) true)]) (V := fun (x5 : (List (Bool))) => .tup []) h ⟨flat_eq (show _ = List.map Gx.encB (List.set c1 (Int.toNat (w64 ((w64 (v0 * c0.mCols)) + v1))) true) by (exact eq_by)) (fun _ => rfl), trivial⟩ (fun x5 h1 => (turn_objs (by (exact eq_by)) (hr_i_PartsOf_1 (w64 (v0 - 1)) v1 c0 (List.set c1 (Int.toNat (w64 ((w64 (v0 * c0.mCols)) + v1))) true) _ h1))) (fun x5 hx5 h => ?_)
     refine avb ?_
     refine qtb ?_;refine turn_sel (O := fun (x6 : (List (Bool))) => [some (.box [.d (D.i c0.mRows), .d (D.i c0.mCols), .d (D.s c0.mCells)]), some (.box [.sl 3]), some (.box [.fn 212 [.ptr 0 0 0, .ptr 1 0 0, .ptr 2 0 0]]), some (.arr 1 (List.map Gx.encB x6) true)]) (V := fun (x6 : (List (Bool))) => .tup []) h ⟨flat_map (fun _ => rfl), trivial⟩ (fun x6 h1 => (hr_i_PartsOf_1 (w64 (v0 + 1)) v1 c0 x5 _ h1)) (fun x6 hx6 h => ?_)
     refine avb ?_
     refine qtb ?_;refine turn_sel (O := fun (x7 : (List (Bool))) => [some (.box [.d (D.i c0.mRows), .d (D.i c0.mCols), .d (D.s c0.mCells)]), some (.box [.sl 3]), some (.box [.fn 212 [.ptr 0 0 0, .ptr 1 0 0, .ptr 2 0 0]]), some (.arr 1 (List.map Gx.encB x7) true)]) (V := fun (x7 : (List (Bool))) => .tup []) h ⟨flat_map (fun _ => rfl), trivial⟩ (fun x7 h1 => (hr_i_PartsOf_1 v0 (w64 (v1 - 1)) c0 x6 _ h1)) (fun x7 hx7 h => ?_)
     refine avb ?_
     refine qtb ?_;refine turn_sel (O := fun (x8 : (List (Bool))) => [some (.box [.d (D.i c0.mRows), .d (D.i c0.mCols), .d (D.s c0.mCells)]), some (.box [.sl 3]), some (.box [.fn 212 [.ptr 0 0 0, .ptr 1 0 0, .ptr 2 0 0]]), some (.arr 1 (List.map Gx.encB x8) true)]) (V := fun (x8 : (List (Bool))) => .tup []) h ⟨flat_map (fun _ => rfl), trivial⟩ (fun x8 h1 => (hr_i_PartsOf_1 v0 (w64 (v1 + 1)) c0 x7 _ h1)) (fun x8 hx8 h => ?_)
     refine avb ?_
     obtain rfl := some_in h
     exact ⟨cons_eq rfl (cons_eq rfl (cons_eq rfl (cons_eq (some_arr (by (exact eq_by))) (rfl)))), by (exact eq_by)⟩

theorem i_PartsOf_1_R_ok (N : Nat) : ∀ n : Nat, (∀ a0 a1 a2 a3 r, i_PartsOf_1_R N n a0 a1 a2 a3 = some r → Turn Tryz.prog 212 [.d (D.i a0), .d (D.i a1), .ptr 0 0 0, .ptr 1 0 0, .ptr 2 0 0] [.box [.d (D.i a2.mRows), .d (D.i a2.mCols), .d (D.s a2.mCells)], .box [.sl 3], .box [.fn 212 [.ptr 0 0 0, .ptr 1 0 0, .ptr 2 0 0]], .arr 1 (List.map Gx.encB a3) true] [some (.box [.d (D.i a2.mRows), .d (D.i a2.mCols), .d (D.s a2.mCells)]), some (.box [.sl 3]), some (.box [.fn 212 [.ptr 0 0 0, .ptr 1 0 0, .ptr 2 0 0]]), some (.arr 1 (List.map Gx.encB r) true)] (.tup []))
 | 0 => fun _ _ _ _ _ h => by simp [i_PartsOf_1_R] at h
 | n + 1 => by
  have ih := i_PartsOf_1_R_ok N n
  exact fun a0 a1 a2 a3 _ h => i_PartsOf_1_B_ok N _ (ih) a0 a1 a2 a3 h

theorem i_PartsOf_1_ok (N : Nat) (v0 : Int) (v1 : Int) (v2 : Gx.Grid) (v3 : List (Bool)) {r : (List (Bool))} (h : i_PartsOf_1 N v0 v1 v2 v3 = some r) : Turn Tryz.prog 212 [.d (D.i v0), .d (D.i v1), .ptr 0 0 0, .ptr 1 0 0, .ptr 2 0 0] [.box [.d (D.i v2.mRows), .d (D.i v2.mCols), .d (D.s v2.mCells)], .box [.sl 3], .box [.fn 212 [.ptr 0 0 0, .ptr 1 0 0, .ptr 2 0 0]], .arr 1 (List.map Gx.encB v3) true] [some (.box [.d (D.i v2.mRows), .d (D.i v2.mCols), .d (D.s v2.mCells)]), some (.box [.sl 3]), some (.box [.fn 212 [.ptr 0 0 0, .ptr 1 0 0, .ptr 2 0 0]]), some (.arr 1 (List.map Gx.encB r) true)] (.tup []) :=
 (i_PartsOf_1_R_ok N N) v0 v1 v2 v3 _ h

theorem i_PartsOf_ok (N : Nat) (v0 : Gx.Grid) {r : Int} (h : i_PartsOf N v0 = some r) : Pure Tryz.prog 176 [DV.agg (Gx.Grid.enc v0)] (DV.one (D.i r)) := by
 refine pure_of_walk Tryz.tok Tryz.mixed Tryz.func176 (by kernel_rfl) fun W => ?_
 unfold i_PartsOf at h
 refine avb ?_
 refine plb ?_;refine call_sel (E := fun (x : Bool) => DV.one (D.b x)) h (fun x1 h1 => (i_IsGrid_ok N v0 h1)) (fun x1 hx1 h => ?_)
 refine avb ?_
 refine brb h ?_ ?_<;>intro _ h
 ·cases h;exact eq_by
 ·refine lns (v0.mCells.length : Int) ?_
  refine avb ?_
  refine chk_sel h (fun q => mks_ok q (by decide)) (fun h => ?_)
  refine ab0 ?_
  refine W.r_seq ?_
  refine ab0 ?_
  refine W.r_seq ?_
  refine ab0 ?_
  refine W.r_seq ?_
  refine ab0 ?_
  obtain ⟨zt5, h, gt5⟩ := bnd_some h
  refine W.r_cut (fun (t5 : Int) => ⟨[(5, .d (D.i t5))], [], 1000⟩) (fun t => t = zt5) ?_ ?_
  ·refine avb ?_
   refine lns (v0.mCells.length : Int) ?_
   refine avb ?_
   refine loop_lp (fun (p1 : (List (Bool)) × Int × Int) => ⟨[(1, .ptr 1 0 0), (3, .ptr 2 0 0), (4, .ptr 4 0 0), (5, .d (D.i p1.2.1)), (17, .d (D.i (v0.mCells.length : Int))), (18, .d (D.i p1.2.2))], [(1, some (.box [.d (D.i v0.mRows), .d (D.i v0.mCols), .d (D.s v0.mCells)])), (2, some (.box [.sl 3])), (3, some (.arr 1 (List.map Gx.encB p1.1) true)), (4, some (.box [.fn 212 [.ptr 1 0 0, .ptr 2 0 0, .ptr 4 0 0]]))], 1000⟩) h ?_ ?_
   ·exact weak_by
   intro np1 p1 yp1 h hfp1
   unfold i_PartsOf_L1 at h
   refine avb ?_
   refine br_sel h (fun _ h => ?_) (fun _ h => ?_)
   ·refine ab0 ?_
    refine W.r_seq ?_
    refine ab0 ?_
    refine W.r_seq ?_
    refine ab0 ?_
    obtain ⟨zt3, h, gt3⟩ := bnd_some h
    refine W.r_cut (fun (t3 : Bool) => ⟨[(1, .ptr 1 0 0), (3, .ptr 2 0 0), (4, .ptr 4 0 0), (5, .d (D.i p1.2.1)), (6, .d (D.i p1.2.2)), (17, .d (D.i (v0.mCells.length : Int))), (18, .d (D.i p1.2.2)), (32, .d (D.b t3))], [(1, some (.box [.d (D.i v0.mRows), .d (D.i v0.mCols), .d (D.s v0.mCells)])), (2, some (.box [.sl 3])), (3, some (.arr 1 (List.map Gx.encB p1.1) true)), (4, some (.box [.fn 212 [.ptr 1 0 0, .ptr 2 0 0, .ptr 4 0 0]]))], 1000⟩) (fun t => t = zt3) ?_ ?_
    ·refine avb ?_
     refine chk_sel h (fun q => q) (fun h => ?_)
     refine avb ?_
     refine brb h ?_ ?_<;>intro _ h
     ·refine idxp_sel h (fun x2 hx2 h => ?_)
      refine avb ?_
      refine ldp_sel hx2 ?_
      refine avb ?_
      refine cut_at (!x2) (some_in h) ?_
      exact weak_by
     ·refine cut_at (false) (some_in h) ?_
      exact weak_by
    rintro t3 rfl
    have h : _ = some _ := gt3
    refine avb ?_
    refine brb h ?_ ?_<;>intro _ h
    ·refine chk_sel h (fun q => q) (fun h => ?_)
     refine avb ?_
     refine chk_sel h (fun q => q) (fun h => ?_)
     refine avb ?_
     refine qtb ?_;refine turn_sel (O := fun (x4 : (List (Bool))) => [some (.box [.d (D.i v0.mRows), .d (D.i v0.mCols), .d (D.s v0.mCells)]), some (.box [.sl 3]), some (.box [.fn 212 [.ptr 0 0 0, .ptr 1 0 0, .ptr 2 0 0]]), some (.arr 1 (List.map Gx.encB x4) true)]) (V := fun (x4 : (List (Bool))) => .tup []) h ⟨flat_map (fun _ => rfl), trivial⟩ (fun x4 h1 => (i_PartsOf_1_ok N (w64 (Int.tdiv p1.2.2 v0.mCols)) (Int.tmod p1.2.2 v0.mCols) v0 p1.1 h1)) (fun x4 hx4 h => ?_)
     refine avb ?_
     exact lbk hfp1 h
    ·exact lbk hfp1 h
   ·refine avb ?_
    have h := finr hfp1 h
    refine cut_at (p1.2.1) (some_in h) ?_
    exact weak_by
  rintro t5 rfl
  have h : _ = some _ := gt5
  refine avb ?_
  cases h;exact eq_by

theorem i_IsConnected_ok (N : Nat) (v0 : Gx.Grid) {r : Bool} (h : i_IsConnected N v0 = some r) : Pure Tryz.prog 140 [DV.agg (Gx.Grid.enc v0)] (DV.one (D.b r)) := by
 refine pure_of_walk Tryz.tok Tryz.mixed Tryz.func140 (by kernel_rfl) fun W => ?_
 unfold i_IsConnected at h
 refine avb ?_
 refine plb ?_;refine call_sel (E := fun (x : Int) => DV.one (D.i x)) h (fun x1 h1 => (i_PartsOf_ok N v0 h1)) (fun x1 hx1 h => ?_)
 refine avb ?_
 cases h;exact eq_by

theorem i_run_ok (N : Nat) (v0 : Gx.Grid) (v1 : Int) (v2 : Bool) {r : Int} (h : i_run N v0 v1 v2 = some r) : Pure Tryz.prog 143 [DV.agg (Gx.Grid.enc v0), DV.one (D.i v1), DV.one (D.b v2)] (DV.one (D.i r)) := by
 refine pure_of_walk Tryz.tok Tryz.mixed Tryz.func143 (by kernel_rfl) fun W => ?_
 unfold i_run at h
 refine avb ?_
 refine chk_sel h (fun q => q) (fun h => ?_)
 refine ab0 ?_
 obtain ⟨zt1, h, gt1⟩ := bnd_some h
 refine W.r_cut (fun (t1 : Int × Int × Int) => ⟨[(1, .d (D.i v1)), (3, .ptr 1 0 0), (7, .d (D.i t1.1)), (8, .d (D.i t1.2.1)), (9, .d (D.i t1.2.2))], [(1, some (.box [.d (D.i v0.mRows), .d (D.i v0.mCols), .d (D.s v0.mCells)]))], 1000⟩) (fun t => t = zt1) ?_ ?_
 ·refine avb ?_
  refine brb h ?_ ?_<;>intro _ h
  ·refine chk_sel h (fun q => q) (fun h => ?_)
   refine avb ?_
   refine cut_at ((v0.mCols, w64 (Int.tdiv v1 v0.mCols), v0.mRows)) (some_in h) ?_
   exact weak_by
  ·refine cut_at ((1, Int.tmod v1 v0.mCols, v0.mCols)) (some_in h) ?_
   exact weak_by
 rintro t1 rfl
 have h : _ = some _ := gt1
 refine ab0 ?_
 obtain ⟨zt2, h, gt2⟩ := cutb_some h
 refine W.r_cut (fun (t2 : Unit) => ⟨[(1, .d (D.i v1)), (3, .ptr 1 0 0), (7, .d (D.i t1.1)), (8, .d (D.i t1.2.1)), (9, .d (D.i t1.2.2))], [(1, some (.box [.d (D.i v0.mRows), .d (D.i v0.mCols), .d (D.s v0.mCells)]))], 1000⟩) (fun t => .nx t = zt2) ?_ ?_
 ·refine avb ?_
  refine chk_sel h (fun q => q) (fun h => ?_)
  refine avb ?_
  refine brb h ?_ ?_<;>intro _ h
  ·have h := cutr gt2 h
   cases h;exact eq_by
  ·refine brb h ?_ ?_<;>intro _ h
   ·refine chk_sel h (fun q => q) (fun h => ?_)
    refine avb ?_
    refine brb h ?_ ?_<;>intro _ h
    ·have h := cutr gt2 h
     cases h;exact eq_by
    ·refine cut_at (()) (some_in h) ?_
     exact weak_by
   ·refine cut_at (()) (some_in h) ?_
    exact weak_by
 rintro t2 rfl
 have h : _ = some _ := gt2
 refine ab0 ?_
 refine W.r_seq ?_
 refine ab0 ?_
 obtain ⟨zt3, h, gt3⟩ := bnd_some h
 refine W.r_cut (fun (t3 : Int) => ⟨[(10, .d (D.i t3))], [], 1000⟩) (fun t => t = zt3) ?_ ?_
 ·refine avb ?_
  refine loop_lp (fun (p1 : Int) => ⟨[(1, .d (D.i v1)), (3, .ptr 1 0 0), (7, .d (D.i t1.1)), (8, .d (D.i t1.2.1)), (9, .d (D.i t1.2.2)), (10, .d (D.i p1))], [(1, some (.box [.d (D.i v0.mRows), .d (D.i v0.mCols), .d (D.s v0.mCells)]))], 1000⟩) h ?_ ?_
  ·exact weak_by
  intro np1 p1 yp1 h hfp1
  unfold i_run_L1 at h
  refine avb ?_
  refine brb h ?_ ?_<;>intro _ h
  ·refine chk_sel h (fun q => q) (fun h => ?_)
   refine avb ?_
   refine brb h ?_ ?_<;>intro _ h
   ·exact lbk hfp1 h
   ·have h := finr hfp1 h
    refine cut_at (p1) (some_in h) ?_
    exact weak_by
  ·have h := finr hfp1 h
   refine cut_at (p1) (some_in h) ?_
   exact weak_by
 rintro t3 rfl
 have h : _ = some _ := gt3
 refine avb ?_
 cases h;exact eq_by

theorem i_SlotsOf_ok (N : Nat) (v0 : Gx.Grid) {r : (List (Gx.Slot))} (h : i_SlotsOf N v0 = some r) : Pure Tryz.prog 103 [DV.agg (Gx.Grid.enc v0)] (DV.one (D.sl 4 (List.map Gx.Slot.enc r))) := by
 refine pure_of_walk Tryz.tok Tryz.mixed Tryz.func103 (by kernel_rfl) fun W => ?_
 unfold i_SlotsOf at h
 refine avb ?_
 refine plb ?_;refine call_sel (E := fun (x : Bool) => DV.one (D.b x)) h (fun x1 h1 => (i_IsGrid_ok N v0 h1)) (fun x1 hx1 h => ?_)
 refine avb ?_
 refine br_sel h (fun _ h => ?_) (fun _ h => ?_)
 ·refine avb ?_
  cases h;exact eq_by
 ·refine ab0 ?_
  refine W.r_seq ?_
  refine ab0 ?_
  refine W.r_seq ?_
  refine ab0 ?_
  obtain ⟨zt6, h, gt6⟩ := bnd_some h
  refine W.r_cut (fun (t6 : (List (Gx.Slot))) => ⟨[(3, .sl 1)], [(1, some (.arr 4 (List.map Gx.Slot.enc t6) true))], 1000⟩) (fun t => t = zt6) ?_ ?_
  ·refine avb ?_
   refine lns (v0.mCells.length : Int) ?_
   refine avb ?_
   refine loop_lp (fun (p1 : (List (Gx.Slot)) × Int × Int) => ⟨[(1, .ptr 1 0 0), (3, .sl 2), (4, .d (D.i p1.2.1)), (13, .d (D.i (v0.mCells.length : Int))), (14, .d (D.i p1.2.2))], [(1, some (.box [.d (D.i v0.mRows), .d (D.i v0.mCols), .d (D.s v0.mCells)])), (2, some (.arr 4 (List.map Gx.Slot.enc p1.1) true))], 1000⟩) h ?_ ?_
   ·exact weak_by
   intro np1 p1 yp1 h hfp1
   unfold i_SlotsOf_L1 at h
   refine avb ?_
   refine brb h ?_ ?_<;>intro _ h
   ·refine plb ?_;refine call_sel (E := fun (x : Int) => DV.one (D.i x)) h (fun x2 h1 => (i_run_ok N v0 p1.2.2 false h1)) (fun x2 hx2 h => ?_)
    refine avb ?_
    refine plb ?_;refine call_sel (E := fun (x : Int) => DV.one (D.i x)) h (fun x3 h1 => (i_run_ok N v0 p1.2.2 true h1)) (fun x3 hx3 h => ?_)
    refine ab0 ?_
    obtain ⟨zt4, h, gt4⟩ := bnd_some h
    refine W.r_cut (fun (t4 : Int) => ⟨[(1, .ptr 1 0 0), (3, .sl 2), (4, .d (D.i t4)), (5, .d (D.i p1.2.2)), (6, .d (D.i x2)), (7, .d (D.i x3)), (13, .d (D.i (v0.mCells.length : Int))), (14, .d (D.i p1.2.2))], [(1, some (.box [.d (D.i v0.mRows), .d (D.i v0.mCols), .d (D.s v0.mCells)])), (2, some (.arr 4 (List.map Gx.Slot.enc p1.1) true))], 1000⟩) (fun t => t = zt4) ?_ ?_
    ·refine avb ?_
     refine brb h ?_ ?_<;>intro _ h
     ·refine cut_at (w64 (p1.2.1 + 1)) (some_in h) ?_
      exact weak_by
     ·refine brb h ?_ ?_<;>intro _ h
      ·refine cut_at (w64 (p1.2.1 + 1)) (some_in h) ?_
       exact weak_by
      ·refine cut_at (p1.2.1) (some_in h) ?_
       exact weak_by
    rintro t4 rfl
    have h : _ = some _ := gt4
    refine ab0 ?_
    obtain ⟨zt5, h, gt5⟩ := bnd_some h
    refine W.r_cut (fun (t5 : (List (Gx.Slot))) => ⟨[(1, .ptr 1 0 0), (3, .sl 2), (4, .d (D.i t4)), (5, .d (D.i p1.2.2)), (7, .d (D.i x3)), (13, .d (D.i (v0.mCells.length : Int))), (14, .d (D.i p1.2.2))], [(1, some (.box [.d (D.i v0.mRows), .d (D.i v0.mCols), .d (D.s v0.mCells)])), (2, some (.arr 4 (List.map Gx.Slot.enc t5) true))], 1000⟩) (fun t => t = zt5) ?_ ?_
    ·refine avb ?_
     refine brb h ?_ ?_<;>intro _ h
     ·refine app_sel h (app_ok (by (first|rfl|simp [sub])) (by (first|rfl|simp [sub])) (by decide)) (by (intro h; cases h)) (fun h => ?_)
      refine avb ?_
      refine cut_at (p1.1 ++ ([(⟨t4, false, p1.2.2, x2⟩ : Gx.Slot)])) (some_in h) ?_
      exact weak_by
     ·refine cut_at (p1.1) (some_in h) ?_
      exact weak_by
    rintro t5 rfl
    have h : _ = some _ := gt5
    refine avb ?_
    refine brb h ?_ ?_<;>intro _ h
    ·refine app_sel h (app_ok (by (first|rfl|simp [sub])) (by (first|rfl|simp [sub])) (by decide)) (by (intro h; cases h)) (fun h => ?_)
     refine avb ?_
     exact lbk hfp1 h
    ·exact lbk hfp1 h
   ·have h := finr hfp1 h
    refine cut_at (p1.1) (some_in h) ?_
    exact weak_by
  rintro t6 rfl
  have h : _ = some _ := gt6
  refine avb ?_
  cases h;exact eq_by

theorem i_cells_ok (N : Nat) (v0 : Gx.Grid) (v1 : Gx.Slot) {r : (List (Int))} (h : i_cells N v0 v1 = some r) : Pure Tryz.prog 213 [DV.agg (Gx.Grid.enc v0), DV.agg (Gx.Slot.enc v1)] (DV.one (D.sl 1 (List.map Gx.encI r))) := by
 refine pure_of_walk Tryz.tok Tryz.mixed Tryz.func213 (by kernel_rfl) fun W => ?_
 unfold i_cells at h
 refine ab0 ?_
 refine W.r_seq ?_
 refine ab0 ?_
 refine W.r_seq ?_
 refine ab0 ?_
 obtain ⟨zt1, h, gt1⟩ := bnd_some h
 refine W.r_cut (fun (t1 : Int) => ⟨[(3, .ptr 1 0 0), (5, .d (D.i t1))], [(1, some (.box [.d (D.i v1.mNumber), .d (D.b v1.mDown), .d (D.i v1.mCell), .d (D.i v1.mLength)]))], 1000⟩) (fun t => t = zt1) ?_ ?_
 ·refine avb ?_
  refine brb h ?_ ?_<;>intro _ h
  ·refine cut_at (v0.mCols) (some_in h) ?_
   exact weak_by
  ·refine cut_at (1) (some_in h) ?_
   exact weak_by
 rintro t1 rfl
 have h : _ = some _ := gt1
 refine ab0 ?_
 refine W.r_seq ?_
 refine ab0 ?_
 obtain ⟨zt2, h, gt2⟩ := bnd_some h
 refine W.r_cut (fun (t2 : (List (Int))) => ⟨[(6, .sl 1)], [(1, some (.arr 1 (List.map Gx.encI t2) true))], 1000⟩) (fun t => t = zt2) ?_ ?_
 ·refine avb ?_
  refine loop_lp (fun (p1 : (List (Int)) × Int) => ⟨[(3, .ptr 1 0 0), (5, .d (D.i t1)), (6, .sl 2), (13, .d (D.i v1.mLength)), (14, .d (D.i p1.2))], [(1, some (.box [.d (D.i v1.mNumber), .d (D.b v1.mDown), .d (D.i v1.mCell), .d (D.i v1.mLength)])), (2, some (.arr 1 (List.map Gx.encI p1.1) true))], 1000⟩) h ?_ ?_
  ·exact weak_by
  intro np1 p1 yp1 h hfp1
  unfold i_cells_L1 at h
  refine avb ?_
  refine brb h ?_ ?_<;>intro _ h
  ·refine app_sel h (app_ok (by (first|rfl|simp [sub])) (by (first|rfl|simp [sub])) (by decide)) (by (intro h; cases h)) (fun h => ?_)
   refine avb ?_
   exact lbk hfp1 h
  ·have h := finr hfp1 h
   refine cut_at (p1.1) (some_in h) ?_
   exact weak_by
 rintro t2 rfl
 have h : _ = some _ := gt2
 refine avb ?_
 cases h;exact eq_by

theorem i_layout_ok (N : Nat) (v0 : Gx.Grid) {r : (List (List (Int)))} (h : i_layout N v0 = some r) : Pure Tryz.prog 177 [DV.agg (Gx.Grid.enc v0)] (DV.one (D.sl 1 (List.map (Gx.encL 1 Gx.encI) r))) := by
 refine pure_of_walk Tryz.tok Tryz.mixed Tryz.func177 (by kernel_rfl) fun W => ?_
 unfold i_layout at h
 refine ab0 ?_
 refine W.r_seq ?_
 refine ab0 ?_
 refine W.r_seq ?_
 refine ab0 ?_
 obtain ⟨zt4, h, gt4⟩ := bnd_some h
 refine W.r_cut (fun (t4 : (List (List (Int)))) => ⟨[(3, .sl 1)], [(1, some (.arr 1 (List.map (Gx.encL 1 Gx.encI) t4) true))], 1000⟩) (fun t => t = zt4) ?_ ?_
 ·refine avb ?_
  refine plb ?_;refine call_sel (E := fun (x : (List (Gx.Slot))) => DV.one (D.sl 4 (List.map Gx.Slot.enc x))) h (fun x1 h1 => (i_SlotsOf_ok N v0 h1)) (fun x1 hx1 h => ?_)
  refine avb ?_
  refine lns (x1.length : Int) ?_
  refine avb ?_
  refine loop_lp (fun (p1 : (List (List (Int))) × Int) => ⟨[(1, .ptr 1 0 0), (3, .sl 2), (7, .sl 3), (8, .d (D.i (x1.length : Int))), (9, .d (D.i p1.2))], [(1, some (.box [.d (D.i v0.mRows), .d (D.i v0.mCols), .d (D.s v0.mCells)])), (2, some (.arr 1 (List.map (Gx.encL 1 Gx.encI) p1.1) true)), (3, some (.arr 4 (List.map Gx.Slot.enc x1) true))], 1000⟩) h ?_ ?_
  ·exact weak_by
  intro np1 p1 yp1 h hfp1
  unfold i_layout_L1 at h
  refine avb ?_
  refine brb h ?_ ?_<;>intro _ h
  ·refine idxp_sel h (fun x2 hx2 h => ?_)
   refine avb ?_
   refine ldp_sel hx2 ?_
   refine avb ?_
   refine plb ?_;refine call_sel (E := fun (x : (List (Int))) => DV.one (D.sl 1 (List.map Gx.encI x))) h (fun x3 h1 => (i_cells_ok N v0 x2 h1)) (fun x3 hx3 h => ?_)
   refine avb ?_
   refine app_sel h (app_ok (by (first|rfl|simp [sub])) (by (first|rfl|simp [sub])) (by decide)) (by (intro h; cases h)) (fun h => ?_)
   refine avb ?_
   exact lbk hfp1 h
  ·have h := finr hfp1 h
   refine cut_at (p1.1) (some_in h) ?_
   exact weak_by
 rintro t4 rfl
 have h : _ = some _ := gt4
 refine avb ?_
 cases h;exact eq_by

theorem g_slices_Index_Sint_int_ok (N : Nat) (v0 : List (Int)) (v1 : Int) {r : Int} (h : g_slices_Index_Sint_int N v0 v1 = some r) : Pure Tryz.prog 239 [DV.one (D.sl 1 (List.map Gx.encI v0)), DV.one (D.i v1)] (DV.one (D.i r)) := by
 refine pure_of_walk Tryz.tok Tryz.mixed Tryz.func239 (by kernel_rfl) fun W => ?_
 unfold g_slices_Index_Sint_int at h
 refine ab0 ?_
 refine W.r_seq ?_
 refine ab0 ?_
 obtain ⟨zt2, h, gt2⟩ := cutb_some h
 refine W.r_cut (fun (t2 : Unit) => ⟨[], [], 1000⟩) (fun t => .nx t = zt2) ?_ ?_
 ·refine avb ?_
  refine lns (v0.length : Int) ?_
  refine avb ?_
  refine loop_lp (fun (p1 : Int) => ⟨[(0, .d (D.sl 1 (List.map Gx.encI v0))), (1, .d (D.i v1)), (7, .d (D.i (v0.length : Int))), (8, .d (D.i p1))], [], 1000⟩) h ?_ ?_
  ·exact weak_by
  intro np1 p1 yp1 h hfp1
  unfold g_slices_Index_Sint_int_L1 at h
  refine avb ?_
  refine brb h ?_ ?_<;>intro _ h
  ·refine idx_sel h (fun x1 hx1 h => ?_)
   refine avb ?_
   refine brb h ?_ ?_<;>intro _ h
   ·have h := finr hfp1 h
    have h := cutr gt2 h
    cases h;exact eq_by
   ·exact lbk hfp1 h
  ·have h := finr hfp1 h
   refine cut_at (()) (some_in h) ?_
   exact weak_by
 rintro t2 rfl
 have h : _ = some _ := gt2
 refine avb ?_
 cases h;exact eq_by

theorem g_slices_Contains_Sint_int_ok (N : Nat) (v0 : List (Int)) (v1 : Int) {r : Bool} (h : g_slices_Contains_Sint_int N v0 v1 = some r) : Pure Tryz.prog 228 [DV.one (D.sl 1 (List.map Gx.encI v0)), DV.one (D.i v1)] (DV.one (D.b r)) := by
 refine pure_of_walk Tryz.tok Tryz.mixed Tryz.func228 (by kernel_rfl) fun W => ?_
 unfold g_slices_Contains_Sint_int at h
 refine avb ?_
 refine plb ?_;refine call_sel (E := fun (x : Int) => DV.one (D.i x)) h (fun x1 h1 => (g_slices_Index_Sint_int_ok N v0 v1 h1)) (fun x1 hx1 h => ?_)
 refine avb ?_
 cases h;exact eq_by

theorem i_SlotsAt_ok (N : Nat) (v0 : Gx.Grid) (v1 : Int) {r : (List (Int))} (h : i_SlotsAt N v0 v1 = some r) : Pure Tryz.prog 214 [DV.agg (Gx.Grid.enc v0), DV.one (D.i v1)] (DV.one (D.sl 1 (List.map Gx.encI r))) := by
 refine pure_of_walk Tryz.tok Tryz.mixed Tryz.func214 (by kernel_rfl) fun W => ?_
 unfold i_SlotsAt at h
 refine ab0 ?_
 refine W.r_seq ?_
 refine ab0 ?_
 refine W.r_seq ?_
 refine ab0 ?_
 obtain ⟨zt4, h, gt4⟩ := bnd_some h
 refine W.r_cut (fun (t4 : (List (Int))) => ⟨[(5, .sl 1)], [(1, some (.arr 1 (List.map Gx.encI t4) true))], 1000⟩) (fun t => t = zt4) ?_ ?_
 ·refine avb ?_
  refine plb ?_;refine call_sel (E := fun (x : (List (List (Int)))) => DV.one (D.sl 1 (List.map (Gx.encL 1 Gx.encI) x))) h (fun x1 h1 => (i_layout_ok N v0 h1)) (fun x1 hx1 h => ?_)
  refine avb ?_
  refine lns (x1.length : Int) ?_
  refine avb ?_
  refine loop_lp (fun (p1 : (List (Int)) × Int) => ⟨[(1, .d (D.i v1)), (5, .sl 1), (9, .sl 2), (10, .d (D.i (x1.length : Int))), (11, .d (D.i p1.2))], [(1, some (.arr 1 (List.map Gx.encI p1.1) true)), (2, some (.arr 1 (List.map (Gx.encL 1 Gx.encI) x1) true))], 1000⟩) h ?_ ?_
  ·exact weak_by
  intro np1 p1 yp1 h hfp1
  unfold i_SlotsAt_L1 at h
  refine avb ?_
  refine brb h ?_ ?_<;>intro _ h
  ·refine idxp_sel h (fun x2 hx2 h => ?_)
   refine avb ?_
   refine ldp_sel hx2 ?_
   refine avb ?_
   refine plb ?_;refine call_sel (E := fun (x : Bool) => DV.one (D.b x)) h (fun x3 h1 => (g_slices_Contains_Sint_int_ok N x2 v1 h1)) (fun x3 hx3 h => ?_)
   refine avb ?_
   refine brb h ?_ ?_<;>intro _ h
   ·refine app_sel h (app_ok (by (first|rfl|simp [sub])) (by (first|rfl|simp [sub])) (by decide)) (by (intro h; cases h)) (fun h => ?_)
    refine avb ?_
    exact lbk hfp1 h
   ·exact lbk hfp1 h
  ·have h := finr hfp1 h
   refine cut_at (p1.1) (some_in h) ?_
   exact weak_by
 rintro t4 rfl
 have h : _ = some _ := gt4
 refine avb ?_
 cases h;exact eq_by

theorem i_IsChecked_ok (N : Nat) (v0 : Gx.Grid) (v1 : Int) {r : Bool} (h : i_IsChecked N v0 v1 = some r) : Pure Tryz.prog 179 [DV.agg (Gx.Grid.enc v0), DV.one (D.i v1)] (DV.one (D.b r)) := by
 refine pure_of_walk Tryz.tok Tryz.mixed Tryz.func179 (by kernel_rfl) fun W => ?_
 unfold i_IsChecked at h
 refine avb ?_
 refine plb ?_;refine call_sel (E := fun (x : (List (Int))) => DV.one (D.sl 1 (List.map Gx.encI x))) h (fun x1 h1 => (i_SlotsAt_ok N v0 v1 h1)) (fun x1 hx1 h => ?_)
 refine avb ?_
 refine lns (x1.length : Int) ?_
 refine avb ?_
 cases h;exact eq_by

end Lw
end Go.Proofs
