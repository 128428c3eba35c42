/- PRINTED BY gen.py (mine): their contracts. -/
import Derived.Test.YtgmppfmemimkkaaGreatAvPfExampleHouse1
namespace Go.Proofs
open Go Go.Av
set_option maxRecDepth 100000
set_option maxHeartbeats 4000000
set_option linter.unusedVariables false
set_option linter.unusedSimpArgs false
namespace Lw
theorem s_l1In_ok (N : Nat) (v0 : Int) (v1 : Int) (v2 : Int) {r : Bool} (h : s_l1In N v0 v1 v2 = some r) : Pure Tryz.prog 87 [DV.one (D.i v0), DV.one (D.i v1), DV.one (D.i v2)] (DV.one (D.b r)) := by
 refine pure_of_walk Tryz.tok Tryz.mixed Tryz.func87 (by kernel_rfl) fun W => ?_
 unfold s_l1In at h
 refine avb ?_
 refine brb h ?_ ?_<;>intro _ h
 ·cases h;exact eq_by
 ·cases h;exact eq_by

theorem s_IsWord_ok (N : Nat) (v0 : List UInt8) {r : Bool} (h : s_IsWord N v0 = some r) : Pure Tryz.prog 88 [DV.one (D.s v0)] (DV.one (D.b r)) := by
 refine pure_of_walk Tryz.tok Tryz.mixed Tryz.func88 (by kernel_rfl) fun W => ?_
 unfold s_IsWord at h
 refine avb ?_
 refine lns (v0.length : Int) ?_
 refine avb ?_
 refine plb ?_;refine call_sel (E := fun (x : Bool) => DV.one (D.b x)) h (fun x1 h1 => (s_l1In_ok N (v0.length : Int) 1 8 h1)) (fun x1 hx1 h => ?_)
 refine avb ?_
 refine br_sel h (fun _ h => ?_) (fun _ h => ?_)
 ·refine avb ?_
  cases h;exact eq_by
 ·refine ab0 ?_
  obtain ⟨zt2, h, gt2⟩ := cutb_some h
  refine W.r_cut (fun (t2 : Unit) => ⟨[], [], 1000⟩) (fun t => .nx t = zt2) ?_ ?_
  ·refine avb ?_
   refine loop_lp (fun (p1 : Int) => ⟨[(0, .d (D.s v0)), (3, .d (D.i p1))], [], 1000⟩) h ?_ ?_
   ·exact weak_by
   intro np1 p1 yp1 h hfp1
   unfold s_IsWord_L1 at h
   refine avb ?_
   refine lns (v0.length : Int) ?_
   refine avb ?_
   refine brb h ?_ ?_<;>intro _ h
   ·refine chk_sel h (fun q => q) (fun h => ?_)
    refine avb ?_
    refine brb h ?_ ?_<;>intro _ h
    ·have h := finr hfp1 h
     have h := cutr gt2 h
     cases h;exact eq_by
    ·refine chk_sel h (fun q => q) (fun h => ?_)
     refine avb ?_
     refine brb h ?_ ?_<;>intro _ h
     ·have h := finr hfp1 h
      have h := cutr gt2 h
      cases h;exact eq_by
     ·exact lbk hfp1 h
   ·have h := finr hfp1 h
    refine cut_at (()) (some_in h) ?_
    exact weak_by
  rintro t2 rfl
  have h : _ = some _ := gt2
  refine avb ?_
  cases h;exact eq_by

theorem s_l15Ok_ok (N : Nat) (v0 : List (Gx.Step)) (v1 : Int) {r : Bool} (h : s_l15Ok N v0 v1 = some r) : Pure Tryz.prog 196 [DV.one (D.sl 4 (List.map Gx.Step.enc v0)), DV.one (D.i v1)] (DV.one (D.b r)) := by
 refine pure_of_walk Tryz.tok Tryz.mixed Tryz.func196 (by kernel_rfl) fun W => ?_
 unfold s_l15Ok at h
 refine avb ?_
 refine idx_sel h (fun x1 hx1 h => ?_)
 refine ab0 ?_
 obtain ⟨zt4, h, gt4⟩ := cutb_some h
 refine W.r_cut (fun (t4 : Unit) => ⟨[(0, .d (D.sl 4 (List.map Gx.Step.enc v0))), (1, .d (D.i v1)), (5, .ptr 1 0 0)], [(1, some (.box [.d (D.i x1.mKind), .d (D.s x1.mWord), .d (D.i x1.mA), .d (D.i x1.mB)]))], 1000⟩) (fun t => .nx t = zt4) ?_ ?_
 ·refine avb ?_
  refine plb ?_;refine call_sel (E := fun (x : Bool) => DV.one (D.b x)) h (fun x2 h1 => (s_l1In_ok N x1.mKind 1 9 h1)) (fun x2 hx2 h => ?_)
  refine avb ?_
  refine brb h ?_ ?_<;>intro _ h
  ·have h := cutr gt4 h
   cases h;exact eq_by
  ·refine plb ?_;refine call_sel (E := fun (x : Bool) => DV.one (D.b x)) h (fun x3 h1 => (s_IsWord_ok N x1.mWord h1)) (fun x3 hx3 h => ?_)
   refine avb ?_
   refine brb h ?_ ?_<;>intro _ h
   ·have h := cutr gt4 h
    cases h;exact eq_by
   ·refine brb h ?_ ?_<;>intro _ h
    ·refine brb h ?_ ?_<;>intro _ h
     ·have h := cutr gt4 h
      cases h;exact eq_by
     ·refine cut_at (()) (some_in h) ?_
      exact weak_by
    ·refine cut_at (()) (some_in h) ?_
     exact weak_by
 rintro t4 rfl
 have h : _ = some _ := gt4
 refine ab0 ?_
 obtain ⟨zt5, h, gt5⟩ := bnd_some h
 refine W.r_cut (fun (t5 : Bool) => ⟨[(0, .d (D.sl 4 (List.map Gx.Step.enc v0))), (1, .d (D.i v1)), (5, .ptr 1 0 0), (6, .d (D.b t5))], [(1, some (.box [.d (D.i x1.mKind), .d (D.s x1.mWord), .d (D.i x1.mA), .d (D.i x1.mB)]))], 1000⟩) (fun t => t = zt5) ?_ ?_
 ·refine avb ?_
  refine brb h ?_ ?_<;>intro _ h
  ·refine cut_at (true) (some_in h) ?_
   exact weak_by
  ·refine cut_at (x1.mKind == 5) (some_in h) ?_
   exact weak_by
 rintro t5 rfl
 have h : _ = some _ := gt5
 refine avb ?_
 refine br_sel h (fun _ h => ?_) (fun _ h => ?_)
 ·refine avb ?_
  refine brb h ?_ ?_<;>intro _ h
  ·cases h;exact eq_by
  ·cases h;exact eq_by
 ·refine ab0 ?_
  obtain ⟨zt8, h, gt8⟩ := cutb_some h
  refine W.r_cut (fun (t8 : Unit) => ⟨[(0, .d (D.sl 4 (List.map Gx.Step.enc v0))), (5, .ptr 1 0 0), (6, .d (D.b t5))], [(1, some (.box [.d (D.i x1.mKind), .d (D.s x1.mWord), .d (D.i x1.mA), .d (D.i x1.mB)]))], 1000⟩) (fun t => .nx t = zt8) ?_ ?_
  ·refine avb ?_
   refine plb ?_;refine call_sel (E := fun (x : Bool) => DV.one (D.b x)) h (fun x6 h1 => (s_l1In_ok N x1.mA 0 (w64 (v1 - 1)) h1)) (fun x6 hx6 h => ?_)
   refine avb ?_
   refine brb h ?_ ?_<;>intro _ h
   ·have h := cutr gt8 h
    cases h;exact eq_by
   ·refine brb h ?_ ?_<;>intro _ h
    ·refine plb ?_;refine call_sel (E := fun (x : Bool) => DV.one (D.b x)) h (fun x7 h1 => (s_l1In_ok N x1.mB 0 (w64 (v1 - 1)) h1)) (fun x7 hx7 h => ?_)
     refine avb ?_
     refine brb h ?_ ?_<;>intro _ h
     ·have h := cutr gt8 h
      cases h;exact eq_by
     ·refine brb h ?_ ?_<;>intro _ h
      ·refine brb h ?_ ?_<;>intro _ h
       ·have h := cutr gt8 h
        cases h;exact eq_by
       ·refine cut_at (()) (some_in h) ?_
        exact weak_by
      ·refine cut_at (()) (some_in h) ?_
       exact weak_by
    ·refine brb h ?_ ?_<;>intro _ h
     ·refine brb h ?_ ?_<;>intro _ h
      ·have h := cutr gt8 h
       cases h;exact eq_by
      ·refine cut_at (()) (some_in h) ?_
       exact weak_by
     ·refine cut_at (()) (some_in h) ?_
      exact weak_by
  rintro t8 rfl
  have h : _ = some _ := gt8
  refine avb ?_
  refine brb h ?_ ?_<;>intro _ h
  ·cases h;exact eq_by
  ·refine brb h ?_ ?_<;>intro _ h
   ·cases h;exact eq_by
   ·refine idx_sel h (fun x9 hx9 h => ?_)
    refine avb ?_
    cases h;exact eq_by

theorem s_IsPlay_ok (N : Nat) (v0 : List (Gx.Step)) {r : Bool} (h : s_IsPlay N v0 = some r) : Pure Tryz.prog 168 [DV.one (D.sl 4 (List.map Gx.Step.enc v0))] (DV.one (D.b r)) := by
 refine pure_of_walk Tryz.tok Tryz.mixed Tryz.func168 (by kernel_rfl) fun W => ?_
 unfold s_IsPlay at h
 refine ab0 ?_
 refine W.r_seq ?_
 refine ab0 ?_
 obtain ⟨zt2, h, gt2⟩ := cutb_some h
 refine W.r_cut (fun (t2 : Unit) => ⟨[(0, .d (D.sl 4 (List.map Gx.Step.enc v0)))], [], 1000⟩) (fun t => .nx t = zt2) ?_ ?_
 ·refine avb ?_
  refine loop_lp (fun (p1 : Int) => ⟨[(0, .d (D.sl 4 (List.map Gx.Step.enc v0))), (3, .d (D.i p1))], [], 1000⟩) h ?_ ?_
  ·exact weak_by
  intro np1 p1 yp1 h hfp1
  unfold s_IsPlay_L1 at h
  refine avb ?_
  refine lns (v0.length : Int) ?_
  refine avb ?_
  refine brb h ?_ ?_<;>intro _ h
  ·refine lns (v0.length : Int) ?_
   refine avb ?_
   refine brb h ?_ ?_<;>intro _ h
   ·refine plb ?_;refine call_sel (E := fun (x : Bool) => DV.one (D.b x)) h (fun x1 h1 => (s_l15Ok_ok N v0 p1 h1)) (fun x1 hx1 h => ?_)
    refine avb ?_
    refine brb h ?_ ?_<;>intro _ h
    ·have h := finr hfp1 h
     have h := cutr gt2 h
     cases h;exact eq_by
    ·exact lbk hfp1 h
   ·have h := finr hfp1 h
    refine cut_at (()) (some_in h) ?_
    exact weak_by
  ·have h := finr hfp1 h
   refine cut_at (()) (some_in h) ?_
   exact weak_by
 rintro t2 rfl
 have h : _ = some _ := gt2
 refine avb ?_
 refine lns (v0.length : Int) ?_
 refine avb ?_
 refine plb ?_;refine call_sel (E := fun (x : Bool) => DV.one (D.b x)) h (fun x3 h1 => (s_l1In_ok N (v0.length : Int) 1 9 h1)) (fun x3 hx3 h => ?_)
 refine avb ?_
 cases h;exact eq_by

theorem s_IsClue_ok (N : Nat) (v0 : Gx.Clue) {r : Bool} (h : s_IsClue N v0 = some r) : Pure Tryz.prog 134 [DV.agg (Gx.Clue.enc v0)] (DV.one (D.b r)) := by
 refine pure_of_walk Tryz.tok Tryz.mixed Tryz.func134 (by kernel_rfl) fun W => ?_
 unfold s_IsClue at h
 refine avb ?_
 refine plb ?_;refine call_sel (E := fun (x : Bool) => DV.one (D.b x)) h (fun x1 h1 => (s_l1In_ok N v0.mSense 1 99 h1)) (fun x1 hx1 h => ?_)
 refine avb ?_
 refine brb h ?_ ?_<;>intro _ h
 ·refine plb ?_;refine call_sel (E := fun (x : Bool) => DV.one (D.b x)) h (fun x2 h1 => (s_IsPlay_ok N v0.mPlay h1)) (fun x2 hx2 h => ?_)
  refine avb ?_
  cases h;exact eq_by
 ·cases h;exact eq_by

theorem s_IsGrid_ok (N : Nat) (v0 : Gx.Grid) {r : Bool} (h : s_IsGrid N v0 = some r) : Pure Tryz.prog 131 [DV.agg (Gx.Grid.enc v0)] (DV.one (D.b r)) := by
 refine pure_of_walk Tryz.tok Tryz.mixed Tryz.func131 (by kernel_rfl) fun W => ?_
 unfold s_IsGrid at h
 refine avb ?_
 refine plb ?_;refine call_sel (E := fun (x : Bool) => DV.one (D.b x)) h (fun x1 h1 => (s_l1In_ok N v0.mRows 2 6 h1)) (fun x1 hx1 h => ?_)
 refine avb ?_
 refine brb h ?_ ?_<;>intro _ h
 ·cases h;exact eq_by
 ·refine plb ?_;refine call_sel (E := fun (x : Bool) => DV.one (D.b x)) h (fun x2 h1 => (s_l1In_ok N v0.mCols 2 6 h1)) (fun x2 hx2 h => ?_)
  refine avb ?_
  refine brb h ?_ ?_<;>intro _ h
  ·cases h;exact eq_by
  ·refine lns (v0.mCells.length : Int) ?_
   refine avb ?_
   refine br_sel h (fun _ h => ?_) (fun _ h => ?_)
   ·refine avb ?_
    cases h;exact eq_by
   ·refine ab0 ?_
    obtain ⟨zt3, h, gt3⟩ := cutb_some h
    refine W.r_cut (fun (t3 : Unit) => ⟨[], [], 1000⟩) (fun t => .nx t = zt3) ?_ ?_
    ·refine avb ?_
     refine loop_lp (fun (p1 : Int) => ⟨[(1, .ptr 1 0 0), (3, .d (D.i p1))], [(1, some (.box [.d (D.i v0.mRows), .d (D.i v0.mCols), .d (D.s v0.mCells)]))], 1000⟩) h ?_ ?_
     ·exact weak_by
     intro np1 p1 yp1 h hfp1
     unfold s_IsGrid_L1 at h
     refine avb ?_
     refine lns (v0.mCells.length : Int) ?_
     refine avb ?_
     refine brb h ?_ ?_<;>intro _ h
     ·refine chk_sel h (fun q => q) (fun h => ?_)
      refine avb ?_
      refine brb h ?_ ?_<;>intro _ h
      ·refine chk_sel h (fun q => q) (fun h => ?_)
       refine avb ?_
       refine brb h ?_ ?_<;>intro _ h
       ·have h := finr hfp1 h
        have h := cutr gt3 h
        cases h;exact eq_by
       ·exact lbk hfp1 h
      ·exact lbk hfp1 h
     ·have h := finr hfp1 h
      refine cut_at (()) (some_in h) ?_
      exact weak_by
    rintro t3 rfl
    have h : _ = some _ := gt3
    refine avb ?_
    cases h;exact eq_by

theorem s_l8From_ok (N : Nat) (v0 : Gx.Grid) (v1 : Int) (v2 : Bool) {r : Int} (h : s_l8From N v0 v1 v2 = some r) : Pure Tryz.prog 132 [DV.agg (Gx.Grid.enc v0), DV.one (D.i v1), DV.one (D.b v2)] (DV.one (D.i r)) := by
 refine pure_of_walk Tryz.tok Tryz.mixed Tryz.func132 (by kernel_rfl) fun W => ?_
 unfold s_l8From at h
 refine avb ?_
 refine chk_sel h (fun q => q) (fun h => ?_)
 refine ab0 ?_
 refine W.r_seq ?_
 refine ab0 ?_
 obtain ⟨zt1, h, gt1⟩ := bnd_some h
 refine W.r_cut (fun (t1 : Int × Int × Int) => ⟨[(1, .d (D.i v1)), (3, .ptr 1 0 0), (7, .d (D.i t1.1)), (8, .d (D.i t1.2.1)), (9, .d (D.i t1.2.2))], [(1, some (.box [.d (D.i v0.mRows), .d (D.i v0.mCols), .d (D.s v0.mCells)]))], 1000⟩) (fun t => t = zt1) ?_ ?_
 ·refine avb ?_
  refine brb h ?_ ?_<;>intro _ h
  ·refine chk_sel h (fun q => q) (fun h => ?_)
   refine avb ?_
   refine cut_at ((v0.mCols, w64 (Int.tdiv v1 v0.mCols), v0.mRows)) (some_in h) ?_
   exact weak_by
  ·refine cut_at ((1, Int.tmod v1 v0.mCols, v0.mCols)) (some_in h) ?_
   exact weak_by
 rintro t1 rfl
 have h : _ = some _ := gt1
 refine ab0 ?_
 obtain ⟨zt2, h, gt2⟩ := cutb_some h
 refine W.r_cut (fun (t2 : Unit) => ⟨[(1, .d (D.i v1)), (3, .ptr 1 0 0), (7, .d (D.i t1.1)), (8, .d (D.i t1.2.1)), (9, .d (D.i t1.2.2))], [(1, some (.box [.d (D.i v0.mRows), .d (D.i v0.mCols), .d (D.s v0.mCells)]))], 1000⟩) (fun t => .nx t = zt2) ?_ ?_
 ·refine avb ?_
  refine chk_sel h (fun q => q) (fun h => ?_)
  refine avb ?_
  refine brb h ?_ ?_<;>intro _ h
  ·have h := cutr gt2 h
   cases h;exact eq_by
  ·refine brb h ?_ ?_<;>intro _ h
   ·refine chk_sel h (fun q => q) (fun h => ?_)
    refine avb ?_
    refine brb h ?_ ?_<;>intro _ h
    ·have h := cutr gt2 h
     cases h;exact eq_by
    ·refine cut_at (()) (some_in h) ?_
     exact weak_by
   ·refine cut_at (()) (some_in h) ?_
    exact weak_by
 rintro t2 rfl
 have h : _ = some _ := gt2
 refine ab0 ?_
 refine W.r_seq ?_
 refine ab0 ?_
 obtain ⟨zt3, h, gt3⟩ := bnd_some h
 refine W.r_cut (fun (t3 : Int) => ⟨[(10, .d (D.i t3))], [], 1000⟩) (fun t => t = zt3) ?_ ?_
 ·refine avb ?_
  refine loop_lp (fun (p1 : Int) => ⟨[(1, .d (D.i v1)), (3, .ptr 1 0 0), (7, .d (D.i t1.1)), (8, .d (D.i t1.2.1)), (9, .d (D.i t1.2.2)), (10, .d (D.i p1))], [(1, some (.box [.d (D.i v0.mRows), .d (D.i v0.mCols), .d (D.s v0.mCells)]))], 1000⟩) h ?_ ?_
  ·exact weak_by
  intro np1 p1 yp1 h hfp1
  unfold s_l8From_L1 at h
  refine avb ?_
  refine brb h ?_ ?_<;>intro _ h
  ·refine chk_sel h (fun q => q) (fun h => ?_)
   refine avb ?_
   refine brb h ?_ ?_<;>intro _ h
   ·exact lbk hfp1 h
   ·have h := finr hfp1 h
    refine cut_at (p1) (some_in h) ?_
    exact weak_by
  ·have h := finr hfp1 h
   refine cut_at (p1) (some_in h) ?_
   exact weak_by
 rintro t3 rfl
 have h : _ = some _ := gt3
 refine avb ?_
 cases h;exact eq_by

theorem s_SlotsOf_ok (N : Nat) (v0 : Gx.Grid) {r : (List (Gx.Slot))} (h : s_SlotsOf N v0 = some r) : Pure Tryz.prog 85 [DV.agg (Gx.Grid.enc v0)] (DV.one (D.sl 4 (List.map Gx.Slot.enc r))) := by
 refine pure_of_walk Tryz.tok Tryz.mixed Tryz.func85 (by kernel_rfl) fun W => ?_
 unfold s_SlotsOf at h
 refine ab0 ?_
 refine W.r_seq ?_
 refine ab0 ?_
 refine W.r_seq ?_
 refine ab0 ?_
 refine W.r_seq ?_
 refine ab0 ?_
 obtain ⟨zt6, h, gt6⟩ := bnd_some h
 refine W.r_cut (fun (t6 : (List (Gx.Slot))) => ⟨[(3, .sl 1)], [(1, some (.arr 4 (List.map Gx.Slot.enc t6) true))], 1000⟩) (fun t => t = zt6) ?_ ?_
 ·refine avb ?_
  refine loop_lp (fun (p1 : (List (Gx.Slot)) × Int × Int) => ⟨[(1, .ptr 1 0 0), (3, .sl 2), (4, .d (D.i p1.2.1)), (5, .d (D.i p1.2.2))], [(1, some (.box [.d (D.i v0.mRows), .d (D.i v0.mCols), .d (D.s v0.mCells)])), (2, some (.arr 4 (List.map Gx.Slot.enc p1.1) true))], 1000⟩) h ?_ ?_
  ·exact weak_by
  intro np1 p1 yp1 h hfp1
  unfold s_SlotsOf_L1 at h
  refine avb ?_
  refine lns (v0.mCells.length : Int) ?_
  refine avb ?_
  refine brb h ?_ ?_<;>intro _ h
  ·refine plb ?_;refine call_sel (E := fun (x : Bool) => DV.one (D.b x)) h (fun x1 h1 => (s_IsGrid_ok N v0 h1)) (fun x1 hx1 h => ?_)
   refine avb ?_
   refine brb h ?_ ?_<;>intro _ h
   ·refine plb ?_;refine call_sel (E := fun (x : Int) => DV.one (D.i x)) h (fun x2 h1 => (s_l8From_ok N v0 p1.2.2 false h1)) (fun x2 hx2 h => ?_)
    refine avb ?_
    refine plb ?_;refine call_sel (E := fun (x : Int) => DV.one (D.i x)) h (fun x3 h1 => (s_l8From_ok N v0 p1.2.2 true h1)) (fun x3 hx3 h => ?_)
    refine ab0 ?_
    obtain ⟨zt4, h, gt4⟩ := bnd_some h
    refine W.r_cut (fun (t4 : Int) => ⟨[(1, .ptr 1 0 0), (3, .sl 2), (4, .d (D.i t4)), (5, .d (D.i p1.2.2)), (6, .d (D.i x2)), (7, .d (D.i x3))], [(1, some (.box [.d (D.i v0.mRows), .d (D.i v0.mCols), .d (D.s v0.mCells)])), (2, some (.arr 4 (List.map Gx.Slot.enc p1.1) true))], 1000⟩) (fun t => t = zt4) ?_ ?_
    ·refine avb ?_
     refine brb h ?_ ?_<;>intro _ h
     ·refine cut_at (w64 (p1.2.1 + 1)) (some_in h) ?_
      exact weak_by
     ·refine brb h ?_ ?_<;>intro _ h
      ·refine cut_at (w64 (p1.2.1 + 1)) (some_in h) ?_
       exact weak_by
      ·refine cut_at (p1.2.1) (some_in h) ?_
       exact weak_by
    rintro t4 rfl
    have h : _ = some _ := gt4
    refine ab0 ?_
    obtain ⟨zt5, h, gt5⟩ := bnd_some h
    refine W.r_cut (fun (t5 : (List (Gx.Slot))) => ⟨[(1, .ptr 1 0 0), (3, .sl 2), (4, .d (D.i t4)), (5, .d (D.i p1.2.2)), (7, .d (D.i x3))], [(1, some (.box [.d (D.i v0.mRows), .d (D.i v0.mCols), .d (D.s v0.mCells)])), (2, some (.arr 4 (List.map Gx.Slot.enc t5) true))], 1000⟩) (fun t => t = zt5) ?_ ?_
    ·refine avb ?_
     refine brb h ?_ ?_<;>intro _ h
     ·refine app_sel h (app_ok (by (first|rfl|simp [sub])) (by (first|rfl|simp [sub])) (by decide)) (by (intro h; cases h)) (fun h => ?_)
      refine avb ?_
      refine cut_at (p1.1 ++ ([(⟨t4, false, p1.2.2, x2⟩ : Gx.Slot)])) (some_in h) ?_
      exact weak_by
     ·refine cut_at (p1.1) (some_in h) ?_
      exact weak_by
    rintro t5 rfl
    have h : _ = some _ := gt5
    refine avb ?_
    refine brb h ?_ ?_<;>intro _ h
    ·refine app_sel h (app_ok (by (first|rfl|simp [sub])) (by (first|rfl|simp [sub])) (by decide)) (by (intro h; cases h)) (fun h => ?_)
     refine avb ?_
     exact lbk hfp1 h
    ·exact lbk hfp1 h
   ·have h := finr hfp1 h
    refine cut_at (p1.1) (some_in h) ?_
    exact weak_by
  ·have h := finr hfp1 h
   refine cut_at (p1.1) (some_in h) ?_
   exact weak_by
 rintro t6 rfl
 have h : _ = some _ := gt6
 refine avb ?_
 cases h;exact eq_by

theorem s_Backwards_ok (N : Nat) (v0 : List UInt8) {r : (List UInt8)} (h : s_Backwards N v0 = some r) : Pure Tryz.prog 215 [DV.one (D.s v0)] (DV.one (D.s r)) := by
 refine pure_of_walk Tryz.tok Tryz.mixed Tryz.func215 (by kernel_rfl) fun W => ?_
 unfold s_Backwards at h
 refine ab0 ?_
 refine W.r_seq ?_
 refine ab0 ?_
 refine W.r_seq ?_
 refine ab0 ?_
 obtain ⟨zt1, h, gt1⟩ := bnd_some h
 refine W.r_cut (fun (t1 : (List UInt8)) => ⟨[(3, .d (D.s t1))], [], 1000⟩) (fun t => t = zt1) ?_ ?_
 ·refine avb ?_
  refine loop_lp (fun (p1 : (List UInt8) × Int) => ⟨[(0, .d (D.s v0)), (3, .d (D.s p1.1)), (4, .d (D.i p1.2))], [], 1000⟩) h ?_ ?_
  ·exact weak_by
  intro np1 p1 yp1 h hfp1
  unfold s_Backwards_L1 at h
  refine avb ?_
  refine lns (v0.length : Int) ?_
  refine avb ?_
  refine brb h ?_ ?_<;>intro _ h
  ·refine lns (v0.length : Int) ?_
   refine avb ?_
   refine brb h ?_ ?_<;>intro _ h
   ·refine chk_sel h (fun q => q) (fun h => ?_)
    refine avb ?_
    refine chk_sel h (fun q => Nat.le_trans q (by decide)) (fun h => ?_)
    refine avb ?_
    exact lbk hfp1 h
   ·have h := finr hfp1 h
    refine cut_at (p1.1) (some_in h) ?_
    exact weak_by
  ·have h := finr hfp1 h
   refine cut_at (p1.1) (some_in h) ?_
   exact weak_by
 rintro t1 rfl
 have h : _ = some _ := gt1
 refine avb ?_
 cases h;exact eq_by

theorem s_TurnGrid_ok (N : Nat) (v0 : Gx.Grid) {r : Gx.Grid} (h : s_TurnGrid N v0 = some r) : Pure Tryz.prog 197 [DV.agg (Gx.Grid.enc v0)] (DV.agg (Gx.Grid.enc r)) := by
 refine pure_of_walk Tryz.tok Tryz.mixed Tryz.func197 (by kernel_rfl) fun W => ?_
 unfold s_TurnGrid at h
 refine avb ?_
 refine plb ?_;refine call_sel (E := fun (x : Bool) => DV.one (D.b x)) h (fun x1 h1 => (s_IsGrid_ok N v0 h1)) (fun x1 hx1 h => ?_)
 refine avb ?_
 refine brb h ?_ ?_<;>intro _ h
 ·cases h;exact eq_by
 ·refine plb ?_;refine call_sel (E := fun (x : (List UInt8)) => DV.one (D.s x)) h (fun x2 h1 => (s_Backwards_ok N v0.mCells h1)) (fun x2 hx2 h => ?_)
  refine avb ?_
  cases h;exact eq_by

theorem s_IsSymmetric_ok (N : Nat) (v0 : Gx.Grid) {r : Bool} (h : s_IsSymmetric N v0 = some r) : Pure Tryz.prog 169 [DV.agg (Gx.Grid.enc v0)] (DV.one (D.b r)) := by
 refine pure_of_walk Tryz.tok Tryz.mixed Tryz.func169 (by kernel_rfl) fun W => ?_
 unfold s_IsSymmetric at h
 refine avb ?_
 refine plb ?_;refine call_sel (E := fun (x : Bool) => DV.one (D.b x)) h (fun x1 h1 => (s_IsGrid_ok N v0 h1)) (fun x1 hx1 h => ?_)
 refine avb ?_
 refine brb h ?_ ?_<;>intro _ h
 ·refine plb ?_;refine call_sel (E := fun (x : Gx.Grid) => DV.agg (Gx.Grid.enc x)) h (fun x2 h1 => (s_TurnGrid_ok N v0 h1)) (fun x2 hx2 h => ?_)
  refine avb ?_
  cases h;exact eq_by
 ·cases h;exact eq_by

theorem s_l10Reach_ok (N : Nat) (v0 : Gx.Grid) (v1 : List (Bool)) (v2 : Int) {r : (List (Bool))} (h : s_l10Reach N v0 v1 v2 = some r) : Turn Tryz.prog 216 [.agg [.d (D.i v0.mRows), .d (D.i v0.mCols), .d (D.s v0.mCells)], .sl 0, .d (D.i v2)] [.arr 1 (List.map Gx.encB v1) true] [some (.arr 1 (List.map Gx.encB r) true)] (.sl 0) := by
 refine turn_of_walk Tryz.tok Tryz.mixed Tryz.func216 (by kernel_rfl) rfl fun W => ?_
 unfold s_l10Reach at h
 refine avb ?_
 refine idxp_sel h (fun x1 hx1 h => ?_)
 refine avb ?_
 refine ldp_sel hx1 ?_
 refine ab0 ?_
 obtain ⟨zt20, h, gt20⟩ := bnd_some h
 refine W.r_cut (fun (t20 : (List (Bool))) => ⟨[(1, .sl 1)], [(1, some (.arr 1 (List.map Gx.encB t20) true)), (990, some (.pin [.sl 1]))], 1000⟩) (fun t => t = zt20) ?_ ?_
 ·refine avb ?_
  refine loop_lp (fun (p1 : (List (Bool)) × Bool) => ⟨[(1, .sl 1), (3, .ptr 2 0 0), (7, .d (D.b p1.2))], [(1, some (.arr 1 (List.map Gx.encB p1.1) true)), (2, some (.box [.d (D.i v0.mRows), .d (D.i v0.mCols), .d (D.s v0.mCells)])), (990, some (.pin [.sl 1]))], 1000⟩) h ?_ ?_
  ·exact weak_by
  intro np1 p1 yp1 h hfp1
  unfold s_l10Reach_L1 at h
  refine avb ?_
  refine brb h ?_ ?_<;>intro _ h
  ·refine loop_lp (fun (p2 : (List (Bool)) × Bool × Int) => ⟨[(1, .sl 1), (3, .ptr 2 0 0), (7, .d (D.b p2.2.1)), (8, .d (D.i p2.2.2))], [(1, some (.arr 1 (List.map Gx.encB p2.1) true)), (2, some (.box [.d (D.i v0.mRows), .d (D.i v0.mCols), .d (D.s v0.mCells)])), (990, some (.pin [.sl 1]))], 1000⟩) h ?_ ?_
   ·exact weak_by
   intro np2 p2 yp2 h hfp2
   unfold s_l10Reach_L2 at h
   refine avb ?_
   refine lns (p2.1.length : Int) ?_
   refine avb ?_
   refine brb h ?_ ?_<;>intro _ h
   ·refine idxp_sel h (fun x2 hx2 h => ?_)
    refine avb ?_
    refine ldp_sel hx2 ?_
    refine avb ?_
    refine brb h ?_ ?_<;>intro _ h
    ·exact lbk hfp2 h
    ·refine chk_sel h (fun q => q) (fun h => ?_)
     refine avb ?_
     refine brb h ?_ ?_<;>intro _ h
     ·exact lbk hfp2 h
     ·refine chk_sel h (fun q => q) (fun h => ?_)
      refine ab0 ?_
      obtain ⟨zt18, h, gt18⟩ := bnd_some h
      refine W.r_cut (fun (t18 : Bool) => ⟨[(1, .sl 1), (3, .ptr 2 0 0), (7, .d (D.b p2.2.1)), (8, .d (D.i p2.2.2)), (10, .d (D.b t18))], [(1, some (.arr 1 (List.map Gx.encB p2.1) true)), (2, some (.box [.d (D.i v0.mRows), .d (D.i v0.mCols), .d (D.s v0.mCells)])), (990, some (.pin [.sl 1]))], 1000⟩) (fun t => t = zt18) ?_ ?_
      ·refine avb ?_
       refine brb h ?_ ?_<;>intro _ h
       ·refine idxp_sel h (fun x3 hx3 h => ?_)
        refine avb ?_
        refine ldp_sel hx3 ?_
        refine avb ?_
        refine brb h ?_ ?_<;>intro _ h
        ·refine cut_at (true) (some_in h) ?_
         exact weak_by
        ·refine brb h ?_ ?_<;>intro _ h
         ·refine idxp_sel h (fun x4 hx4 h => ?_)
          refine avb ?_
          refine ldp_sel hx4 ?_
          refine avb ?_
          refine brb h ?_ ?_<;>intro _ h
          ·refine cut_at (true) (some_in h) ?_
           exact weak_by
          ·refine brb h ?_ ?_<;>intro _ h
           ·refine idxp_sel h (fun x5 hx5 h => ?_)
            refine avb ?_
            refine ldp_sel hx5 ?_
            refine avb ?_
            refine brb h ?_ ?_<;>intro _ h
            ·refine cut_at (true) (some_in h) ?_
             exact weak_by
            ·refine lns (p2.1.length : Int) ?_
             refine avb ?_
             refine brb h ?_ ?_<;>intro _ h
             ·refine idxp_sel h (fun x6 hx6 h => ?_)
              refine avb ?_
              refine ldp_sel hx6 ?_
              refine avb ?_
              refine cut_at (x6) (some_in h) ?_
              exact weak_by
             ·refine cut_at (false) (some_in h) ?_
              exact weak_by
           ·refine lns (p2.1.length : Int) ?_
            refine avb ?_
            refine brb h ?_ ?_<;>intro _ h
            ·refine idxp_sel h (fun x7 hx7 h => ?_)
             refine avb ?_
             refine ldp_sel hx7 ?_
             refine avb ?_
             refine cut_at (x7) (some_in h) ?_
             exact weak_by
            ·refine cut_at (false) (some_in h) ?_
             exact weak_by
         ·refine brb h ?_ ?_<;>intro _ h
          ·refine idxp_sel h (fun x8 hx8 h => ?_)
           refine avb ?_
           refine ldp_sel hx8 ?_
           refine avb ?_
           refine brb h ?_ ?_<;>intro _ h
           ·refine cut_at (true) (some_in h) ?_
            exact weak_by
           ·refine lns (p2.1.length : Int) ?_
            refine avb ?_
            refine brb h ?_ ?_<;>intro _ h
            ·refine idxp_sel h (fun x9 hx9 h => ?_)
             refine avb ?_
             refine ldp_sel hx9 ?_
             refine avb ?_
             refine cut_at (x9) (some_in h) ?_
             exact weak_by
            ·refine cut_at (false) (some_in h) ?_
             exact weak_by
          ·refine lns (p2.1.length : Int) ?_
           refine avb ?_
           refine brb h ?_ ?_<;>intro _ h
           ·refine idxp_sel h (fun x10 hx10 h => ?_)
            refine avb ?_
            refine ldp_sel hx10 ?_
            refine avb ?_
            refine cut_at (x10) (some_in h) ?_
            exact weak_by
           ·refine cut_at (false) (some_in h) ?_
            exact weak_by
       ·refine brb h ?_ ?_<;>intro _ h
        ·refine idxp_sel h (fun x11 hx11 h => ?_)
         refine avb ?_
         refine ldp_sel hx11 ?_
         refine avb ?_
         refine brb h ?_ ?_<;>intro _ h
         ·refine cut_at (true) (some_in h) ?_
          exact weak_by
         ·refine brb h ?_ ?_<;>intro _ h
          ·refine idxp_sel h (fun x12 hx12 h => ?_)
           refine avb ?_
           refine ldp_sel hx12 ?_
           refine avb ?_
           refine brb h ?_ ?_<;>intro _ h
           ·refine cut_at (true) (some_in h) ?_
            exact weak_by
           ·refine lns (p2.1.length : Int) ?_
            refine avb ?_
            refine brb h ?_ ?_<;>intro _ h
            ·refine idxp_sel h (fun x13 hx13 h => ?_)
             refine avb ?_
             refine ldp_sel hx13 ?_
             refine avb ?_
             refine cut_at (x13) (some_in h) ?_
             exact weak_by
            ·refine cut_at (false) (some_in h) ?_
             exact weak_by
          ·refine lns (p2.1.length : Int) ?_
           refine avb ?_
           refine brb h ?_ ?_<;>intro _ h
           ·refine idxp_sel h (fun x14 hx14 h => ?_)
            refine avb ?_
            refine ldp_sel hx14 ?_
            refine avb ?_
            refine cut_at (x14) (some_in h) ?_
            exact weak_by
           ·refine cut_at (false) (some_in h) ?_
            exact weak_by
        ·refine brb h ?_ ?_<;>intro _ h
         ·refine idxp_sel h (fun x15 hx15 h => ?_)
          refine avb ?_
          refine ldp_sel hx15 ?_
          refine avb ?_
          refine brb h ?_ ?_<;>intro _ h
          ·refine cut_at (true) (some_in h) ?_
           exact weak_by
          ·refine lns (p2.1.length : Int) ?_
           refine avb ?_
           refine brb h ?_ ?_<;>intro _ h
           ·refine idxp_sel h (fun x16 hx16 h => ?_)
            refine avb ?_
            refine ldp_sel hx16 ?_
            refine avb ?_
            refine cut_at (x16) (some_in h) ?_
            exact weak_by
           ·refine cut_at (false) (some_in h) ?_
            exact weak_by
         ·refine lns (p2.1.length : Int) ?_
          refine avb ?_
          refine brb h ?_ ?_<;>intro _ h
          ·refine idxp_sel h (fun x17 hx17 h => ?_)
           refine avb ?_
           refine ldp_sel hx17 ?_
           refine avb ?_
           refine cut_at (x17) (some_in h) ?_
           exact weak_by
          ·refine cut_at (false) (some_in h) ?_
           exact weak_by
      rintro t18 rfl
      have h : _ = some _ := gt18
      refine avb ?_
      refine brb h ?_ ?_<;>intro _ h
      ·refine idxp_sel h (fun x19 hx19 h => ?_)
       refine avb ?_
       refine ldp_sel hx19 ?_
       refine avb ?_
       exact lbk hfp2 h
      ·exact lbk hfp2 h
   ·have h := finr hfp2 h
    exact lbk hfp1 h
  ·have h := finr hfp1 h
   refine cut_at (p1.1) (some_in h) ?_
   exact weak_by
 rintro t20 rfl
 have h : _ = some _ := gt20
 refine avb ?_
 obtain rfl := some_in h
 exact ⟨cons_eq (some_arr (by (exact eq_by))) (rfl), by (exact eq_by)⟩

theorem s_PartsOf_ok (N : Nat) (v0 : Gx.Grid) {r : Int} (h : s_PartsOf N v0 = some r) : Pure Tryz.prog 198 [DV.agg (Gx.Grid.enc v0)] (DV.one (D.i r)) := by
 refine pure_of_walk Tryz.tok Tryz.mixed Tryz.func198 (by kernel_rfl) fun W => ?_
 unfold s_PartsOf at h
 refine ab0 ?_
 refine W.r_seq ?_
 refine ab0 ?_
 refine W.r_seq ?_
 refine ab0 ?_
 refine W.r_seq ?_
 refine ab0 ?_
 obtain ⟨zt1, h, gt1⟩ := bnd_some h
 refine W.r_cut (fun (t1 : (List (Bool))) => ⟨[(1, .ptr 1 0 0), (3, .d (D.i 0)), (4, .sl 2)], [(1, some (.box [.d (D.i v0.mRows), .d (D.i v0.mCols), .d (D.s v0.mCells)])), (2, some (.arr 1 (List.map Gx.encB t1) true))], 1000⟩) (fun t => t = zt1) ?_ ?_
 ·refine avb ?_
  refine loop_lp (fun (p1 : (List (Bool)) × Int) => ⟨[(1, .ptr 1 0 0), (3, .d (D.i 0)), (4, .sl 2), (5, .d (D.i p1.2))], [(1, some (.box [.d (D.i v0.mRows), .d (D.i v0.mCols), .d (D.s v0.mCells)])), (2, some (.arr 1 (List.map Gx.encB p1.1) true))], 1000⟩) h ?_ ?_
  ·exact weak_by
  intro np1 p1 yp1 h hfp1
  unfold s_PartsOf_L1 at h
  refine avb ?_
  refine lns (v0.mCells.length : Int) ?_
  refine avb ?_
  refine brb h ?_ ?_<;>intro _ h
  ·refine app_sel h (app_ok (by (first|rfl|simp [sub])) (by (first|rfl|simp [sub])) (by decide)) (by (intro h; cases h)) (fun h => ?_)
   refine avb ?_
   exact lbk hfp1 h
  ·have h := finr hfp1 h
   refine cut_at (p1.1) (some_in h) ?_
   exact weak_by
 rintro t1 rfl
 have h : _ = some _ := gt1
 refine ab0 ?_
 obtain ⟨zt12, h, gt12⟩ := bnd_some h
 refine W.r_cut (fun (t12 : Int) => ⟨[(3, .d (D.i t12))], [], 1000⟩) (fun t => t = zt12) ?_ ?_
 ·refine avb ?_
  refine loop_lp (fun (p2 : Int × (List (Bool)) × Int) => ⟨[(1, .ptr 1 0 0), (3, .d (D.i p2.1)), (4, .sl 2), (6, .d (D.i p2.2.2))], [(1, some (.box [.d (D.i v0.mRows), .d (D.i v0.mCols), .d (D.s v0.mCells)])), (2, some (.arr 1 (List.map Gx.encB p2.2.1) true))], 1000⟩) h ?_ ?_
  ·exact weak_by
  intro np2 p2 yp2 h hfp2
  unfold s_PartsOf_L2 at h
  refine avb ?_
  refine lns (v0.mCells.length : Int) ?_
  refine avb ?_
  refine brb h ?_ ?_<;>intro _ h
  ·refine plb ?_;refine call_sel (E := fun (x : Bool) => DV.one (D.b x)) h (fun x2 h1 => (s_IsGrid_ok N v0 h1)) (fun x2 hx2 h => ?_)
   refine avb ?_
   refine br_sel h (fun _ h => ?_) (fun _ h => ?_)
   ·refine ab0 ?_
    obtain ⟨zt11, h, gt11⟩ := bnd_some h
    refine W.r_cut (fun (t11 : Int × (List (Bool))) => ⟨[(1, .ptr 1 0 0), (3, .d (D.i t11.1)), (4, .sl 2), (6, .d (D.i p2.2.2))], [(1, some (.box [.d (D.i v0.mRows), .d (D.i v0.mCols), .d (D.s v0.mCells)])), (2, some (.arr 1 (List.map Gx.encB t11.2) true))], 1000⟩) (fun t => t = zt11) ?_ ?_
    ·refine ab0 ?_
     obtain ⟨zt4, h, gt4⟩ := bnd_some h
     refine W.r_cut (fun (t4 : Bool) => ⟨[(1, .ptr 1 0 0), (3, .d (D.i p2.1)), (4, .sl 2), (6, .d (D.i p2.2.2)), (43, .d (D.b t4))], [(1, some (.box [.d (D.i v0.mRows), .d (D.i v0.mCols), .d (D.s v0.mCells)])), (2, some (.arr 1 (List.map Gx.encB p2.2.1) true))], 1000⟩) (fun t => t = zt4) ?_ ?_
     ·refine avb ?_
      refine chk_sel h (fun q => q) (fun h => ?_)
      refine avb ?_
      refine brb h ?_ ?_<;>intro _ h
      ·refine idxp_sel h (fun x3 hx3 h => ?_)
       refine avb ?_
       refine ldp_sel hx3 ?_
       refine avb ?_
       refine cut_at (!x3) (some_in h) ?_
       exact weak_by
      ·refine cut_at (false) (some_in h) ?_
       exact weak_by
     rintro t4 rfl
     have h : _ = some _ := gt4
     refine avb ?_
     refine br_sel h (fun _ h => ?_) (fun _ h => ?_)
     ·refine ab0 ?_
      refine W.r_seq ?_
      refine ab0 ?_
      refine W.r_seq ?_
      refine ab0 ?_
      obtain ⟨zt5, h, gt5⟩ := bnd_some h
      refine W.r_cut (fun (t5 : (List (Bool))) => ⟨[(1, .ptr 1 0 0), (3, .d (D.i (w64 (p2.1 + 1)))), (4, .sl 2), (6, .d (D.i p2.2.2)), (7, .sl 3)], [(1, some (.box [.d (D.i v0.mRows), .d (D.i v0.mCols), .d (D.s v0.mCells)])), (2, some (.arr 1 (List.map Gx.encB p2.2.1) true)), (3, some (.arr 1 (List.map Gx.encB t5) true))], 1000⟩) (fun t => t = zt5) ?_ ?_
      ·refine avb ?_
       refine loop_lp (fun (p3 : (List (Bool)) × Int) => ⟨[(1, .ptr 1 0 0), (3, .d (D.i (w64 (p2.1 + 1)))), (4, .sl 2), (6, .d (D.i p2.2.2)), (7, .sl 3), (8, .d (D.i p3.2))], [(1, some (.box [.d (D.i v0.mRows), .d (D.i v0.mCols), .d (D.s v0.mCells)])), (2, some (.arr 1 (List.map Gx.encB p2.2.1) true)), (3, some (.arr 1 (List.map Gx.encB p3.1) true))], 1000⟩) h ?_ ?_
       ·exact weak_by
       intro np3 p3 yp3 h hfp3
       unfold s_PartsOf_L3 at h
       refine avb ?_
       refine lns (p2.2.1.length : Int) ?_
       refine avb ?_
       refine brb h ?_ ?_<;>intro _ h
       ·refine app_sel h (app_ok (by (first|rfl|simp [sub])) (by (first|rfl|simp [sub])) (by decide)) (by (intro h; cases h)) (fun h => ?_)
        refine avb ?_
        exact lbk hfp3 h
       ·have h := finr hfp3 h
        refine cut_at (p3.1) (some_in h) ?_
        exact weak_by
      rintro t5 rfl
      have h : _ = some _ := gt5
      refine avb ?_
      refine qtb ?_;refine turn_sel (O := fun (x6 : (List (Bool))) => [some (.arr 1 (List.map Gx.encB x6) true)]) (V := fun (x6 : (List (Bool))) => .sl 0) h ⟨flat_map (fun _ => rfl), trivial⟩ (fun x6 h1 => (s_l10Reach_ok N v0 t5 p2.2.2 h1)) (fun x6 hx6 h => ?_)
      refine avb ?_
      refine loop_lp (fun (p4 : (List (Bool)) × Int) => ⟨[(1, .ptr 1 0 0), (3, .d (D.i (w64 (p2.1 + 1)))), (4, .sl 2), (6, .d (D.i p2.2.2)), (7, .sl 3), (9, .d (D.i p4.2))], [(1, some (.box [.d (D.i v0.mRows), .d (D.i v0.mCols), .d (D.s v0.mCells)])), (2, some (.arr 1 (List.map Gx.encB p4.1) true)), (3, some (.arr 1 (List.map Gx.encB x6) true))], 1000⟩) h ?_ ?_
      ·exact weak_by
      intro np4 p4 yp4 h hfp4
      unfold s_PartsOf_L4 at h
      refine avb ?_
      refine lns (p4.1.length : Int) ?_
      refine avb ?_
      refine brb h ?_ ?_<;>intro _ h
      ·refine idxp_sel h (fun x7 hx7 h => ?_)
       refine avb ?_
       refine ldp_sel hx7 ?_
       refine avb ?_
       refine brb h ?_ ?_<;>intro _ h
       ·refine idxp_sel h (fun x8 hx8 h => ?_)
        refine avb ?_
        refine ldp_sel hx8 ?_
        refine avb ?_
        exact lbk hfp4 h
       ·refine idxp_sel h (fun x9 hx9 h => ?_)
        refine avb ?_
        refine ldp_sel hx9 ?_
        refine avb ?_
        refine idxp_sel h (fun x10 hx10 h => ?_)
        refine avb ?_
        refine ldp_sel hx10 ?_
        refine avb ?_
        exact lbk hfp4 h
      ·have h := finr hfp4 h
       refine cut_at ((w64 (p2.1 + 1), p4.1)) (some_in h) ?_
       exact weak_by
     ·refine avb ?_
      refine cut_at ((p2.1, p2.2.1)) (some_in h) ?_
      exact weak_by
    rintro t11 rfl
    have h : _ = some _ := gt11
    refine avb ?_
    exact lbk hfp2 h
   ·refine avb ?_
    have h := finr hfp2 h
    refine cut_at (p2.1) (some_in h) ?_
    exact weak_by
  ·have h := finr hfp2 h
   refine cut_at (p2.1) (some_in h) ?_
   exact weak_by
 rintro t12 rfl
 have h : _ = some _ := gt12
 refine avb ?_
 cases h;exact eq_by

theorem s_IsConnected_ok (N : Nat) (v0 : Gx.Grid) {r : Bool} (h : s_IsConnected N v0 = some r) : Pure Tryz.prog 170 [DV.agg (Gx.Grid.enc v0)] (DV.one (D.b r)) := by
 refine pure_of_walk Tryz.tok Tryz.mixed Tryz.func170 (by kernel_rfl) fun W => ?_
 unfold s_IsConnected at h
 refine avb ?_
 refine plb ?_;refine call_sel (E := fun (x : Int) => DV.one (D.i x)) h (fun x1 h1 => (s_PartsOf_ok N v0 h1)) (fun x1 hx1 h => ?_)
 refine avb ?_
 cases h;exact eq_by

theorem s_l10Short_ok (N : Nat) (v0 : Gx.Grid) {r : Bool} (h : s_l10Short N v0 = some r) : Pure Tryz.prog 171 [DV.agg (Gx.Grid.enc v0)] (DV.one (D.b r)) := by
 refine pure_of_walk Tryz.tok Tryz.mixed Tryz.func171 (by kernel_rfl) fun W => ?_
 unfold s_l10Short at h
 refine avb ?_
 refine plb ?_;refine call_sel (E := fun (x : (List (Gx.Slot))) => DV.one (D.sl 4 (List.map Gx.Slot.enc x))) h (fun x1 h1 => (s_SlotsOf_ok N v0 h1)) (fun x1 hx1 h => ?_)
 refine ab0 ?_
 obtain ⟨zt3, h, gt3⟩ := cutb_some h
 refine W.r_cut (fun (t3 : Unit) => ⟨[], [], 1000⟩) (fun t => .nx t = zt3) ?_ ?_
 ·refine avb ?_
  refine loop_lp (fun (p1 : Int) => ⟨[(3, .sl 1), (4, .d (D.i p1))], [(1, some (.arr 4 (List.map Gx.Slot.enc x1) true))], 1000⟩) h ?_ ?_
  ·exact weak_by
  intro np1 p1 yp1 h hfp1
  unfold s_l10Short_L1 at h
  refine avb ?_
  refine lns (x1.length : Int) ?_
  refine avb ?_
  refine brb h ?_ ?_<;>intro _ h
  ·refine idxp_sel h (fun x2 hx2 h => ?_)
   refine avb ?_
   refine ldp_sel hx2 ?_
   refine avb ?_
   refine brb h ?_ ?_<;>intro _ h
   ·have h := finr hfp1 h
    have h := cutr gt3 h
    cases h;exact eq_by
   ·exact lbk hfp1 h
  ·have h := finr hfp1 h
   refine cut_at (()) (some_in h) ?_
   exact weak_by
 rintro t3 rfl
 have h : _ = some _ := gt3
 refine avb ?_
 cases h;exact eq_by

theorem s_CellsOf_ok (N : Nat) (v0 : Gx.Grid) (v1 : Gx.Slot) {r : (List (Int))} (h : s_CellsOf N v0 v1 = some r) : Pure Tryz.prog 89 [DV.agg (Gx.Grid.enc v0), DV.agg (Gx.Slot.enc v1)] (DV.one (D.sl 1 (List.map Gx.encI r))) := by
 refine pure_of_walk Tryz.tok Tryz.mixed Tryz.func89 (by kernel_rfl) fun W => ?_
 unfold s_CellsOf at h
 refine avb ?_
 refine plb ?_;refine call_sel (E := fun (x : (List (Gx.Slot))) => DV.one (D.sl 4 (List.map Gx.Slot.enc x))) h (fun x1 h1 => (s_SlotsOf_ok N v0 h1)) (fun x1 hx1 h => ?_)
 refine ab0 ?_
 obtain ⟨zt4, h, gt4⟩ := bnd_some h
 refine W.r_cut (fun (t4 : (List (Int))) => ⟨[(5, .sl 1)], [(1, some (.arr 1 (List.map Gx.encI t4) true))], 1000⟩) (fun t => t = zt4) ?_ ?_
 ·refine avb ?_
  refine loop_lp (fun (p1 : (List (Int)) × Int) => ⟨[(2, .ptr 1 0 0), (3, .ptr 2 0 0), (5, .sl 3), (6, .sl 4), (7, .d (D.i p1.2))], [(1, some (.box [.d (D.i v0.mRows), .d (D.i v0.mCols), .d (D.s v0.mCells)])), (2, some (.box [.d (D.i v1.mNumber), .d (D.b v1.mDown), .d (D.i v1.mCell), .d (D.i v1.mLength)])), (3, some (.arr 1 (List.map Gx.encI p1.1) true)), (4, some (.arr 4 (List.map Gx.Slot.enc x1) true))], 1000⟩) h ?_ ?_
  ·exact weak_by
  intro np1 p1 yp1 h hfp1
  unfold s_CellsOf_L1 at h
  refine avb ?_
  refine lns (x1.length : Int) ?_
  refine avb ?_
  refine br_sel h (fun _ h => ?_) (fun _ h => ?_)
  ·refine ab0 ?_
   obtain ⟨zt3, h, gt3⟩ := bnd_some h
   refine W.r_cut (fun (t3 : (List (Int))) => ⟨[(2, .ptr 1 0 0), (3, .ptr 2 0 0), (5, .sl 3), (6, .sl 4), (7, .d (D.i p1.2))], [(1, some (.box [.d (D.i v0.mRows), .d (D.i v0.mCols), .d (D.s v0.mCells)])), (2, some (.box [.d (D.i v1.mNumber), .d (D.b v1.mDown), .d (D.i v1.mCell), .d (D.i v1.mLength)])), (3, some (.arr 1 (List.map Gx.encI t3) true)), (4, some (.arr 4 (List.map Gx.Slot.enc x1) true))], 1000⟩) (fun t => t = zt3) ?_ ?_
   ·refine avb ?_
    refine idxp_sel h (fun x2 hx2 h => ?_)
    refine avb ?_
    refine ldp_sel hx2 ?_
    refine avb ?_
    refine brb h ?_ ?_<;>intro _ h
    ·refine cut_at (p1.1) (some_in h) ?_
     exact weak_by
    ·refine loop_lp (fun (p2 : (List (Int)) × Int) => ⟨[(2, .ptr 1 0 0), (3, .ptr 2 0 0), (5, .sl 3), (6, .sl 4), (7, .d (D.i p1.2)), (8, .d (D.i p2.2))], [(1, some (.box [.d (D.i v0.mRows), .d (D.i v0.mCols), .d (D.s v0.mCells)])), (2, some (.box [.d (D.i v1.mNumber), .d (D.b v1.mDown), .d (D.i v1.mCell), .d (D.i v1.mLength)])), (3, some (.arr 1 (List.map Gx.encI p2.1) true)), (4, some (.arr 4 (List.map Gx.Slot.enc x1) true))], 1000⟩) h ?_ ?_
     ·exact weak_by
     intro np2 p2 yp2 h hfp2
     unfold s_CellsOf_L2 at h
     refine avb ?_
     refine brb h ?_ ?_<;>intro _ h
     ·refine brb h ?_ ?_<;>intro _ h
      ·refine app_sel h (app_ok (by (first|rfl|simp [sub])) (by (first|rfl|simp [sub])) (by decide)) (by (intro h; cases h)) (fun h => ?_)
       refine avb ?_
       exact lbk hfp2 h
      ·refine app_sel h (app_ok (by (first|rfl|simp [sub])) (by (first|rfl|simp [sub])) (by decide)) (by (intro h; cases h)) (fun h => ?_)
       refine avb ?_
       exact lbk hfp2 h
     ·have h := finr hfp2 h
      refine cut_at (p2.1) (some_in h) ?_
      exact weak_by
   rintro t3 rfl
   have h : _ = some _ := gt3
   refine avb ?_
   exact lbk hfp1 h
  ·refine avb ?_
   have h := finr hfp1 h
   refine cut_at (p1.1) (some_in h) ?_
   exact weak_by
 rintro t4 rfl
 have h : _ = some _ := gt4
 refine avb ?_
 cases h;exact eq_by

theorem s_l8Has_ok (N : Nat) (v0 : List (Int)) (v1 : Int) {r : Bool} (h : s_l8Has N v0 v1 = some r) : Pure Tryz.prog 218 [DV.one (D.sl 1 (List.map Gx.encI v0)), DV.one (D.i v1)] (DV.one (D.b r)) := by
 refine pure_of_walk Tryz.tok Tryz.mixed Tryz.func218 (by kernel_rfl) fun W => ?_
 unfold s_l8Has at h
 refine ab0 ?_
 refine W.r_seq ?_
 refine ab0 ?_
 obtain ⟨zt2, h, gt2⟩ := cutb_some h
 refine W.r_cut (fun (t2 : Unit) => ⟨[], [], 1000⟩) (fun t => .nx t = zt2) ?_ ?_
 ·refine avb ?_
  refine loop_lp (fun (p1 : Int) => ⟨[(0, .d (D.sl 1 (List.map Gx.encI v0))), (1, .d (D.i v1)), (5, .d (D.i p1))], [], 1000⟩) h ?_ ?_
  ·exact weak_by
  intro np1 p1 yp1 h hfp1
  unfold s_l8Has_L1 at h
  refine avb ?_
  refine lns (v0.length : Int) ?_
  refine avb ?_
  refine brb h ?_ ?_<;>intro _ h
  ·refine idx_sel h (fun x1 hx1 h => ?_)
   refine avb ?_
   refine brb h ?_ ?_<;>intro _ h
   ·have h := finr hfp1 h
    have h := cutr gt2 h
    cases h;exact eq_by
   ·exact lbk hfp1 h
  ·have h := finr hfp1 h
   refine cut_at (()) (some_in h) ?_
   exact weak_by
 rintro t2 rfl
 have h : _ = some _ := gt2
 refine avb ?_
 cases h;exact eq_by

theorem s_SlotsAt_ok (N : Nat) (v0 : Gx.Grid) (v1 : Int) {r : (List (Int))} (h : s_SlotsAt N v0 v1 = some r) : Pure Tryz.prog 201 [DV.agg (Gx.Grid.enc v0), DV.one (D.i v1)] (DV.one (D.sl 1 (List.map Gx.encI r))) := by
 refine pure_of_walk Tryz.tok Tryz.mixed Tryz.func201 (by kernel_rfl) fun W => ?_
 unfold s_SlotsAt at h
 refine avb ?_
 refine plb ?_;refine call_sel (E := fun (x : (List (Gx.Slot))) => DV.one (D.sl 4 (List.map Gx.Slot.enc x))) h (fun x1 h1 => (s_SlotsOf_ok N v0 h1)) (fun x1 hx1 h => ?_)
 refine ab0 ?_
 obtain ⟨zt5, h, gt5⟩ := bnd_some h
 refine W.r_cut (fun (t5 : (List (Int))) => ⟨[(5, .sl 1)], [(1, some (.arr 1 (List.map Gx.encI t5) true))], 1000⟩) (fun t => t = zt5) ?_ ?_
 ·refine avb ?_
  refine loop_lp (fun (p1 : (List (Int)) × Int) => ⟨[(1, .d (D.i v1)), (2, .ptr 1 0 0), (5, .sl 2), (6, .sl 3), (7, .d (D.i p1.2))], [(1, some (.box [.d (D.i v0.mRows), .d (D.i v0.mCols), .d (D.s v0.mCells)])), (2, some (.arr 1 (List.map Gx.encI p1.1) true)), (3, some (.arr 4 (List.map Gx.Slot.enc x1) true))], 1000⟩) h ?_ ?_
  ·exact weak_by
  intro np1 p1 yp1 h hfp1
  unfold s_SlotsAt_L1 at h
  refine avb ?_
  refine lns (x1.length : Int) ?_
  refine avb ?_
  refine brb h ?_ ?_<;>intro _ h
  ·refine idxp_sel h (fun x2 hx2 h => ?_)
   refine avb ?_
   refine ldp_sel hx2 ?_
   refine avb ?_
   refine plb ?_;refine call_sel (E := fun (x : (List (Int))) => DV.one (D.sl 1 (List.map Gx.encI x))) h (fun x3 h1 => (s_CellsOf_ok N v0 x2 h1)) (fun x3 hx3 h => ?_)
   refine avb ?_
   refine plb ?_;refine call_sel (E := fun (x : Bool) => DV.one (D.b x)) h (fun x4 h1 => (s_l8Has_ok N x3 v1 h1)) (fun x4 hx4 h => ?_)
   refine avb ?_
   refine brb h ?_ ?_<;>intro _ h
   ·refine app_sel h (app_ok (by (first|rfl|simp [sub])) (by (first|rfl|simp [sub])) (by decide)) (by (intro h; cases h)) (fun h => ?_)
    refine avb ?_
    exact lbk hfp1 h
   ·exact lbk hfp1 h
  ·have h := finr hfp1 h
   refine cut_at (p1.1) (some_in h) ?_
   exact weak_by
 rintro t5 rfl
 have h : _ = some _ := gt5
 refine avb ?_
 cases h;exact eq_by

theorem s_IsChecked_ok (N : Nat) (v0 : Gx.Grid) (v1 : Int) {r : Bool} (h : s_IsChecked N v0 v1 = some r) : Pure Tryz.prog 217 [DV.agg (Gx.Grid.enc v0), DV.one (D.i v1)] (DV.one (D.b r)) := by
 refine pure_of_walk Tryz.tok Tryz.mixed Tryz.func217 (by kernel_rfl) fun W => ?_
 unfold s_IsChecked at h
 refine avb ?_
 refine plb ?_;refine call_sel (E := fun (x : (List (Int))) => DV.one (D.sl 1 (List.map Gx.encI x))) h (fun x1 h1 => (s_SlotsAt_ok N v0 v1 h1)) (fun x1 hx1 h => ?_)
 refine avb ?_
 refine lns (x1.length : Int) ?_
 refine avb ?_
 cases h;exact eq_by

theorem s_UncheckedIn_ok (N : Nat) (v0 : Gx.Grid) (v1 : Int) {r : Int} (h : s_UncheckedIn N v0 v1 = some r) : Pure Tryz.prog 199 [DV.agg (Gx.Grid.enc v0), DV.one (D.i v1)] (DV.one (D.i r)) := by
 refine pure_of_walk Tryz.tok Tryz.mixed Tryz.func199 (by kernel_rfl) fun W => ?_
 unfold s_UncheckedIn at h
 refine avb ?_
 refine plb ?_;refine call_sel (E := fun (x : (List (Gx.Slot))) => DV.one (D.sl 4 (List.map Gx.Slot.enc x))) h (fun x1 h1 => (s_SlotsOf_ok N v0 h1)) (fun x1 hx1 h => ?_)
 refine avb ?_
 refine lns (x1.length : Int) ?_
 refine avb ?_
 refine plb ?_;refine call_sel (E := fun (x : Bool) => DV.one (D.b x)) h (fun x2 h1 => (s_l1In_ok N v1 0 (w64 ((x1.length : Int) - 1)) h1)) (fun x2 hx2 h => ?_)
 refine avb ?_
 refine brb h ?_ ?_<;>intro _ h
 ·cases h;exact eq_by
 ·refine idxp_sel h (fun x3 hx3 h => ?_)
  refine avb ?_
  refine ldp_sel hx3 ?_
  refine avb ?_
  refine plb ?_;refine call_sel (E := fun (x : (List (Int))) => DV.one (D.sl 1 (List.map Gx.encI x))) h (fun x4 h1 => (s_CellsOf_ok N v0 x3 h1)) (fun x4 hx4 h => ?_)
  refine ab0 ?_
  refine W.r_seq ?_
  refine ab0 ?_
  obtain ⟨zt7, h, gt7⟩ := bnd_some h
  refine W.r_cut (fun (t7 : Int) => ⟨[(7, .d (D.i t7))], [], 1000⟩) (fun t => t = zt7) ?_ ?_
  ·refine avb ?_
   refine loop_lp (fun (p1 : Int × Int) => ⟨[(2, .ptr 1 0 0), (6, .sl 2), (7, .d (D.i p1.1)), (8, .d (D.i p1.2))], [(1, some (.box [.d (D.i v0.mRows), .d (D.i v0.mCols), .d (D.s v0.mCells)])), (2, some (.arr 1 (List.map Gx.encI x4) true))], 1000⟩) h ?_ ?_
   ·exact weak_by
   intro np1 p1 yp1 h hfp1
   unfold s_UncheckedIn_L1 at h
   refine avb ?_
   refine lns (x4.length : Int) ?_
   refine avb ?_
   refine brb h ?_ ?_<;>intro _ h
   ·refine idxp_sel h (fun x5 hx5 h => ?_)
    refine avb ?_
    refine ldp_sel hx5 ?_
    refine avb ?_
    refine plb ?_;refine call_sel (E := fun (x : Bool) => DV.one (D.b x)) h (fun x6 h1 => (s_IsChecked_ok N v0 x5 h1)) (fun x6 hx6 h => ?_)
    refine avb ?_
    refine brb h ?_ ?_<;>intro _ h
    ·exact lbk hfp1 h
    ·exact lbk hfp1 h
   ·have h := finr hfp1 h
    refine cut_at (p1.1) (some_in h) ?_
    exact weak_by
  rintro t7 rfl
  have h : _ = some _ := gt7
  refine avb ?_
  cases h;exact eq_by

theorem s_IsWhite_ok (N : Nat) (v0 : Gx.Grid) (v1 : Int) {r : Bool} (h : s_IsWhite N v0 v1 = some r) : Pure Tryz.prog 200 [DV.agg (Gx.Grid.enc v0), DV.one (D.i v1)] (DV.one (D.b r)) := by
 refine pure_of_walk Tryz.tok Tryz.mixed Tryz.func200 (by kernel_rfl) fun W => ?_
 unfold s_IsWhite at h
 refine avb ?_
 refine plb ?_;refine call_sel (E := fun (x : Bool) => DV.one (D.b x)) h (fun x1 h1 => (s_IsGrid_ok N v0 h1)) (fun x1 hx1 h => ?_)
 refine avb ?_
 refine brb h ?_ ?_<;>intro _ h
 ·refine lns (v0.mCells.length : Int) ?_
  refine avb ?_
  refine plb ?_;refine call_sel (E := fun (x : Bool) => DV.one (D.b x)) h (fun x2 h1 => (s_l1In_ok N v1 0 (w64 ((v0.mCells.length : Int) - 1)) h1)) (fun x2 hx2 h => ?_)
  refine avb ?_
  refine brb h ?_ ?_<;>intro _ h
  ·refine chk_sel h (fun q => q) (fun h => ?_)
   refine avb ?_
   cases h;exact eq_by
  ·cases h;exact eq_by
 ·cases h;exact eq_by

theorem s_l10Alone_ok (N : Nat) (v0 : Gx.Grid) {r : Bool} (h : s_l10Alone N v0 = some r) : Pure Tryz.prog 172 [DV.agg (Gx.Grid.enc v0)] (DV.one (D.b r)) := by
 refine pure_of_walk Tryz.tok Tryz.mixed Tryz.func172 (by kernel_rfl) fun W => ?_
 unfold s_l10Alone at h
 refine avb ?_
 refine plb ?_;refine call_sel (E := fun (x : (List (Gx.Slot))) => DV.one (D.sl 4 (List.map Gx.Slot.enc x))) h (fun x1 h1 => (s_SlotsOf_ok N v0 h1)) (fun x1 hx1 h => ?_)
 refine ab0 ?_
 obtain ⟨zt4, h, gt4⟩ := cutb_some h
 refine W.r_cut (fun (t4 : Unit) => ⟨[(1, .ptr 1 0 0)], [(1, some (.box [.d (D.i v0.mRows), .d (D.i v0.mCols), .d (D.s v0.mCells)]))], 1000⟩) (fun t => .nx t = zt4) ?_ ?_
 ·refine avb ?_
  refine loop_lp (fun (p1 : Int) => ⟨[(1, .ptr 1 0 0), (3, .sl 2), (4, .d (D.i p1))], [(1, some (.box [.d (D.i v0.mRows), .d (D.i v0.mCols), .d (D.s v0.mCells)])), (2, some (.arr 4 (List.map Gx.Slot.enc x1) true))], 1000⟩) h ?_ ?_
  ·exact weak_by
  intro np1 p1 yp1 h hfp1
  unfold s_l10Alone_L1 at h
  refine avb ?_
  refine lns (x1.length : Int) ?_
  refine avb ?_
  refine brb h ?_ ?_<;>intro _ h
  ·refine plb ?_;refine call_sel (E := fun (x : Int) => DV.one (D.i x)) h (fun x2 h1 => (s_UncheckedIn_ok N v0 p1 h1)) (fun x2 hx2 h => ?_)
   refine avb ?_
   refine idxp_sel h (fun x3 hx3 h => ?_)
   refine avb ?_
   refine ldp_sel hx3 ?_
   refine avb ?_
   refine brb h ?_ ?_<;>intro _ h
   ·have h := finr hfp1 h
    have h := cutr gt4 h
    cases h;exact eq_by
   ·exact lbk hfp1 h
  ·have h := finr hfp1 h
   refine cut_at (()) (some_in h) ?_
   exact weak_by
 rintro t4 rfl
 have h : _ = some _ := gt4
 refine ab0 ?_
 obtain ⟨zt7, h, gt7⟩ := cutb_some h
 refine W.r_cut (fun (t7 : Unit) => ⟨[], [], 1000⟩) (fun t => .nx t = zt7) ?_ ?_
 ·refine avb ?_
  refine loop_lp (fun (p2 : Int) => ⟨[(1, .ptr 1 0 0), (5, .d (D.i p2))], [(1, some (.box [.d (D.i v0.mRows), .d (D.i v0.mCols), .d (D.s v0.mCells)]))], 1000⟩) h ?_ ?_
  ·exact weak_by
  intro np2 p2 yp2 h hfp2
  unfold s_l10Alone_L2 at h
  refine avb ?_
  refine lns (v0.mCells.length : Int) ?_
  refine avb ?_
  refine brb h ?_ ?_<;>intro _ h
  ·refine plb ?_;refine call_sel (E := fun (x : Bool) => DV.one (D.b x)) h (fun x5 h1 => (s_IsWhite_ok N v0 p2 h1)) (fun x5 hx5 h => ?_)
   refine avb ?_
   refine brb h ?_ ?_<;>intro _ h
   ·refine plb ?_;refine call_sel (E := fun (x : (List (Int))) => DV.one (D.sl 1 (List.map Gx.encI x))) h (fun x6 h1 => (s_SlotsAt_ok N v0 p2 h1)) (fun x6 hx6 h => ?_)
    refine avb ?_
    refine lns (x6.length : Int) ?_
    refine avb ?_
    refine brb h ?_ ?_<;>intro _ h
    ·have h := finr hfp2 h
     have h := cutr gt7 h
     cases h;exact eq_by
    ·exact lbk hfp2 h
   ·exact lbk hfp2 h
  ·have h := finr hfp2 h
   refine cut_at (()) (some_in h) ?_
   exact weak_by
 rintro t7 rfl
 have h : _ = some _ := gt7
 refine avb ?_
 cases h;exact eq_by

theorem s_FormOf_ok (N : Nat) (v0 : Gx.Grid) {r : Int} (h : s_FormOf N v0 = some r) : Pure Tryz.prog 135 [DV.agg (Gx.Grid.enc v0)] (DV.one (D.i r)) := by
 refine pure_of_walk Tryz.tok Tryz.mixed Tryz.func135 (by kernel_rfl) fun W => ?_
 unfold s_FormOf at h
 refine avb ?_
 refine plb ?_;refine call_sel (E := fun (x : Bool) => DV.one (D.b x)) h (fun x1 h1 => (s_IsGrid_ok N v0 h1)) (fun x1 hx1 h => ?_)
 refine avb ?_
 refine brb h ?_ ?_<;>intro _ h
 ·cases h;exact eq_by
 ·refine plb ?_;refine call_sel (E := fun (x : Bool) => DV.one (D.b x)) h (fun x2 h1 => (s_IsSymmetric_ok N v0 h1)) (fun x2 hx2 h => ?_)
  refine avb ?_
  refine brb h ?_ ?_<;>intro _ h
  ·cases h;exact eq_by
  ·refine plb ?_;refine call_sel (E := fun (x : Bool) => DV.one (D.b x)) h (fun x3 h1 => (s_IsConnected_ok N v0 h1)) (fun x3 hx3 h => ?_)
   refine avb ?_
   refine brb h ?_ ?_<;>intro _ h
   ·cases h;exact eq_by
   ·refine plb ?_;refine call_sel (E := fun (x : Bool) => DV.one (D.b x)) h (fun x4 h1 => (s_l10Short_ok N v0 h1)) (fun x4 hx4 h => ?_)
    refine avb ?_
    refine brb h ?_ ?_<;>intro _ h
    ·cases h;exact eq_by
    ·refine plb ?_;refine call_sel (E := fun (x : Bool) => DV.one (D.b x)) h (fun x5 h1 => (s_l10Alone_ok N v0 h1)) (fun x5 hx5 h => ?_)
     refine avb ?_
     refine brb h ?_ ?_<;>intro _ h
     ·cases h;exact eq_by
     ·cases h;exact eq_by

theorem s_IsPuzzle_ok (N : Nat) (v0 : Gx.Puzzle) {r : Bool} (h : s_IsPuzzle N v0 = some r) : Pure Tryz.prog 186 [DV.agg (Gx.Puzzle.enc v0)] (DV.one (D.b r)) := by
 refine pure_of_walk Tryz.tok Tryz.mixed Tryz.func186 (by kernel_rfl) fun W => ?_
 unfold s_IsPuzzle at h
 refine ab0 ?_
 refine W.r_seq ?_
 refine ab0 ?_
 obtain ⟨zt3, h, gt3⟩ := cutb_some h
 refine W.r_cut (fun (t3 : Unit) => ⟨[(1, .ptr 1 0 0)], [(1, some (.box [.d (D.i v0.mGrid.mRows), .d (D.i v0.mGrid.mCols), .d (D.s v0.mGrid.mCells), .d (D.sl 2 (List.map Gx.Clue.enc v0.mClues)), .d (D.sl 1 (List.map Gx.encI v0.mSeals)), .d (D.i v0.mSalt)]))], 1000⟩) (fun t => .nx t = zt3) ?_ ?_
 ·refine avb ?_
  refine loop_lp (fun (p1 : Int) => ⟨[(1, .ptr 1 0 0), (3, .d (D.i p1))], [(1, some (.box [.d (D.i v0.mGrid.mRows), .d (D.i v0.mGrid.mCols), .d (D.s v0.mGrid.mCells), .d (D.sl 2 (List.map Gx.Clue.enc v0.mClues)), .d (D.sl 1 (List.map Gx.encI v0.mSeals)), .d (D.i v0.mSalt)]))], 1000⟩) h ?_ ?_
  ·exact weak_by
  intro np1 p1 yp1 h hfp1
  unfold s_IsPuzzle_L1 at h
  refine avb ?_
  refine lns (v0.mClues.length : Int) ?_
  refine avb ?_
  refine brb h ?_ ?_<;>intro _ h
  ·refine idx_sel h (fun x1 hx1 h => ?_)
   refine avb ?_
   refine plb ?_;refine call_sel (E := fun (x : Bool) => DV.one (D.b x)) h (fun x2 h1 => (s_IsClue_ok N x1 h1)) (fun x2 hx2 h => ?_)
   refine avb ?_
   refine brb h ?_ ?_<;>intro _ h
   ·have h := finr hfp1 h
    have h := cutr gt3 h
    cases h;exact eq_by
   ·exact lbk hfp1 h
  ·have h := finr hfp1 h
   refine cut_at (()) (some_in h) ?_
   exact weak_by
 rintro t3 rfl
 have h : _ = some _ := gt3
 refine avb ?_
 refine plb ?_;refine call_sel (E := fun (x : (List (Gx.Slot))) => DV.one (D.sl 4 (List.map Gx.Slot.enc x))) h (fun x4 h1 => (s_SlotsOf_ok N v0.mGrid h1)) (fun x4 hx4 h => ?_)
 refine avb ?_
 refine lns (x4.length : Int) ?_
 refine avb ?_
 refine plb ?_;refine call_sel (E := fun (x : Int) => DV.one (D.i x)) h (fun x5 h1 => (s_FormOf_ok N v0.mGrid h1)) (fun x5 hx5 h => ?_)
 refine avb ?_
 refine brb h ?_ ?_<;>intro _ h
 ·refine lns (v0.mClues.length : Int) ?_
  refine avb ?_
  refine brb h ?_ ?_<;>intro _ h
  ·refine lns (v0.mSeals.length : Int) ?_
   refine avb ?_
   refine brb h ?_ ?_<;>intro _ h
   ·refine plb ?_;refine call_sel (E := fun (x : Bool) => DV.one (D.b x)) h (fun x6 h1 => (s_l1In_ok N v0.mSalt 1 9999 h1)) (fun x6 hx6 h => ?_)
    refine avb ?_
    cases h;exact eq_by
   ·cases h;exact eq_by
  ·cases h;exact eq_by
 ·cases h;exact eq_by

theorem s_IsFill_ok (N : Nat) (v0 : Gx.Grid) (v1 : List UInt8) {r : Bool} (h : s_IsFill N v0 v1 = some r) : Pure Tryz.prog 136 [DV.agg (Gx.Grid.enc v0), DV.one (D.s v1)] (DV.one (D.b r)) := by
 refine pure_of_walk Tryz.tok Tryz.mixed Tryz.func136 (by kernel_rfl) fun W => ?_
 unfold s_IsFill at h
 refine avb ?_
 refine plb ?_;refine call_sel (E := fun (x : Bool) => DV.one (D.b x)) h (fun x1 h1 => (s_IsGrid_ok N v0 h1)) (fun x1 hx1 h => ?_)
 refine avb ?_
 refine brb h ?_ ?_<;>intro _ h
 ·cases h;exact eq_by
 ·refine lns (v1.length : Int) ?_
  refine avb ?_
  refine lns (v0.mCells.length : Int) ?_
  refine avb ?_
  refine br_sel h (fun _ h => ?_) (fun _ h => ?_)
  ·refine avb ?_
   cases h;exact eq_by
  ·refine ab0 ?_
   obtain ⟨zt3, h, gt3⟩ := cutb_some h
   refine W.r_cut (fun (t3 : Unit) => ⟨[], [], 1000⟩) (fun t => .nx t = zt3) ?_ ?_
   ·refine avb ?_
    refine loop_lp (fun (p1 : Int) => ⟨[(1, .d (D.s v1)), (2, .ptr 1 0 0), (5, .d (D.i p1))], [(1, some (.box [.d (D.i v0.mRows), .d (D.i v0.mCols), .d (D.s v0.mCells)]))], 1000⟩) h ?_ ?_
    ·exact weak_by
    intro np1 p1 yp1 h hfp1
    unfold s_IsFill_L1 at h
    refine avb ?_
    refine lns (v1.length : Int) ?_
    refine avb ?_
    refine br_sel h (fun _ h => ?_) (fun _ h => ?_)
    ·refine ab0 ?_
     refine W.r_seq ?_
     refine ab0 ?_
     obtain ⟨zt2, h, gt2⟩ := bnd_some h
     refine W.r_cut (fun (t2 : Bool) => ⟨[(1, .d (D.s v1)), (2, .ptr 1 0 0), (5, .d (D.i p1)), (6, .d (D.b t2))], [(1, some (.box [.d (D.i v0.mRows), .d (D.i v0.mCols), .d (D.s v0.mCells)]))], 1000⟩) (fun t => t = zt2) ?_ ?_
     ·refine avb ?_
      refine chk_sel h (fun q => q) (fun h => ?_)
      refine avb ?_
      refine brb h ?_ ?_<;>intro _ h
      ·refine cut_at (true) (some_in h) ?_
       exact weak_by
      ·refine chk_sel h (fun q => q) (fun h => ?_)
       refine avb ?_
       refine brb h ?_ ?_<;>intro _ h
       ·refine chk_sel h (fun q => q) (fun h => ?_)
        refine avb ?_
        refine cut_at (decide ((byteI v1 p1) ≤ 122)) (some_in h) ?_
        exact weak_by
       ·refine cut_at (false) (some_in h) ?_
        exact weak_by
     rintro t2 rfl
     have h : _ = some _ := gt2
     refine avb ?_
     refine chk_sel h (fun q => q) (fun h => ?_)
     refine avb ?_
     refine brb h ?_ ?_<;>intro _ h
     ·refine chk_sel h (fun q => q) (fun h => ?_)
      refine avb ?_
      refine brb h ?_ ?_<;>intro _ h
      ·have h := finr hfp1 h
       have h := cutr gt3 h
       cases h;exact eq_by
      ·refine chk_sel h (fun q => q) (fun h => ?_)
       refine avb ?_
       refine brb h ?_ ?_<;>intro _ h
       ·refine brb h ?_ ?_<;>intro _ h
        ·have h := finr hfp1 h
         have h := cutr gt3 h
         cases h;exact eq_by
        ·exact lbk hfp1 h
       ·exact lbk hfp1 h
     ·refine chk_sel h (fun q => q) (fun h => ?_)
      refine avb ?_
      refine brb h ?_ ?_<;>intro _ h
      ·refine brb h ?_ ?_<;>intro _ h
       ·have h := finr hfp1 h
        have h := cutr gt3 h
        cases h;exact eq_by
       ·exact lbk hfp1 h
      ·exact lbk hfp1 h
    ·refine avb ?_
     have h := finr hfp1 h
     refine cut_at (()) (some_in h) ?_
     exact weak_by
   rintro t3 rfl
   have h : _ = some _ := gt3
   refine avb ?_
   cases h;exact eq_by

theorem s_l11Open_ok (N : Nat) (v0 : List UInt8) {r : Bool} (h : s_l11Open N v0 = some r) : Pure Tryz.prog 208 [DV.one (D.s v0)] (DV.one (D.b r)) := by
 refine pure_of_walk Tryz.tok Tryz.mixed Tryz.func208 (by kernel_rfl) fun W => ?_
 unfold s_l11Open at h
 refine ab0 ?_
 refine W.r_seq ?_
 refine ab0 ?_
 obtain ⟨zt1, h, gt1⟩ := cutb_some h
 refine W.r_cut (fun (t1 : Unit) => ⟨[], [], 1000⟩) (fun t => .nx t = zt1) ?_ ?_
 ·refine avb ?_
  refine loop_lp (fun (p1 : Int) => ⟨[(0, .d (D.s v0)), (3, .d (D.i p1))], [], 1000⟩) h ?_ ?_
  ·exact weak_by
  intro np1 p1 yp1 h hfp1
  unfold s_l11Open_L1 at h
  refine avb ?_
  refine lns (v0.length : Int) ?_
  refine avb ?_
  refine brb h ?_ ?_<;>intro _ h
  ·refine chk_sel h (fun q => q) (fun h => ?_)
   refine avb ?_
   refine brb h ?_ ?_<;>intro _ h
   ·have h := finr hfp1 h
    have h := cutr gt1 h
    cases h;exact eq_by
   ·exact lbk hfp1 h
  ·have h := finr hfp1 h
   refine cut_at (()) (some_in h) ?_
   exact weak_by
 rintro t1 rfl
 have h : _ = some _ := gt1
 refine avb ?_
 cases h;exact eq_by

theorem s_IsFull_ok (N : Nat) (v0 : Gx.Grid) (v1 : List UInt8) {r : Bool} (h : s_IsFull N v0 v1 = some r) : Pure Tryz.prog 187 [DV.agg (Gx.Grid.enc v0), DV.one (D.s v1)] (DV.one (D.b r)) := by
 refine pure_of_walk Tryz.tok Tryz.mixed Tryz.func187 (by kernel_rfl) fun W => ?_
 unfold s_IsFull at h
 refine avb ?_
 refine plb ?_;refine call_sel (E := fun (x : Bool) => DV.one (D.b x)) h (fun x1 h1 => (s_IsFill_ok N v0 v1 h1)) (fun x1 hx1 h => ?_)
 refine avb ?_
 refine brb h ?_ ?_<;>intro _ h
 ·refine plb ?_;refine call_sel (E := fun (x : Bool) => DV.one (D.b x)) h (fun x2 h1 => (s_l11Open_ok N v1 h1)) (fun x2 hx2 h => ?_)
  refine avb ?_
  cases h;exact eq_by
 ·cases h;exact eq_by

theorem s_SlotPattern_ok (N : Nat) (v0 : Gx.Grid) (v1 : List UInt8) (v2 : Int) {r : (List UInt8)} (h : s_SlotPattern N v0 v1 v2 = some r) : Pure Tryz.prog 210 [DV.agg (Gx.Grid.enc v0), DV.one (D.s v1), DV.one (D.i v2)] (DV.one (D.s r)) := by
 refine pure_of_walk Tryz.tok Tryz.mixed Tryz.func210 (by kernel_rfl) fun W => ?_
 unfold s_SlotPattern at h
 refine avb ?_
 refine plb ?_;refine call_sel (E := fun (x : (List (Gx.Slot))) => DV.one (D.sl 4 (List.map Gx.Slot.enc x))) h (fun x1 h1 => (s_SlotsOf_ok N v0 h1)) (fun x1 hx1 h => ?_)
 refine avb ?_
 refine plb ?_;refine call_sel (E := fun (x : Bool) => DV.one (D.b x)) h (fun x2 h1 => (s_IsFill_ok N v0 v1 h1)) (fun x2 hx2 h => ?_)
 refine avb ?_
 refine brb h ?_ ?_<;>intro _ h
 ·cases h;exact eq_by
 ·refine lns (x1.length : Int) ?_
  refine avb ?_
  refine plb ?_;refine call_sel (E := fun (x : Bool) => DV.one (D.b x)) h (fun x3 h1 => (s_l1In_ok N v2 0 (w64 ((x1.length : Int) - 1)) h1)) (fun x3 hx3 h => ?_)
  refine avb ?_
  refine brb h ?_ ?_<;>intro _ h
  ·cases h;exact eq_by
  ·refine idxp_sel h (fun x4 hx4 h => ?_)
   refine avb ?_
   refine ldp_sel hx4 ?_
   refine avb ?_
   refine plb ?_;refine call_sel (E := fun (x : (List (Int))) => DV.one (D.sl 1 (List.map Gx.encI x))) h (fun x5 h1 => (s_CellsOf_ok N v0 x4 h1)) (fun x5 hx5 h => ?_)
   refine ab0 ?_
   obtain ⟨zt8, h, gt8⟩ := bnd_some h
   refine W.r_cut (fun (t8 : (List UInt8)) => ⟨[(8, .d (D.s t8))], [], 1000⟩) (fun t => t = zt8) ?_ ?_
   ·refine avb ?_
    refine loop_lp (fun (p1 : (List UInt8) × Int) => ⟨[(1, .d (D.s v1)), (8, .d (D.s p1.1)), (9, .sl 1), (10, .d (D.i p1.2))], [(1, some (.arr 1 (List.map Gx.encI x5) true))], 1000⟩) h ?_ ?_
    ·exact weak_by
    intro np1 p1 yp1 h hfp1
    unfold s_SlotPattern_L1 at h
    refine avb ?_
    refine lns (x5.length : Int) ?_
    refine avb ?_
    refine brb h ?_ ?_<;>intro _ h
    ·refine idxp_sel h (fun x6 hx6 h => ?_)
     refine avb ?_
     refine ldp_sel hx6 ?_
     refine avb ?_
     refine idxp_sel h (fun x7 hx7 h => ?_)
     refine avb ?_
     refine ldp_sel hx7 ?_
     refine avb ?_
     refine chk_sel h (fun q => q) (fun h => ?_)
     refine avb ?_
     refine chk_sel h (fun q => Nat.le_trans q (by decide)) (fun h => ?_)
     refine avb ?_
     exact lbk hfp1 h
    ·have h := finr hfp1 h
     refine cut_at (p1.1) (some_in h) ?_
     exact weak_by
   rintro t8 rfl
   have h : _ = some _ := gt8
   refine avb ?_
   cases h;exact eq_by

theorem s_LettersOf_ok (N : Nat) (v0 : List UInt8) {r : (List (Int))} (h : s_LettersOf N v0 = some r) : Pure Tryz.prog 228 [DV.one (D.s v0)] (DV.one (D.sl 1 (List.map Gx.encI r))) := by
 refine pure_of_walk Tryz.tok Tryz.mixed Tryz.func228 (by kernel_rfl) fun W => ?_
 unfold s_LettersOf at h
 refine ab0 ?_
 refine W.r_seq ?_
 refine ab0 ?_
 refine W.r_seq ?_
 refine ab0 ?_
 obtain ⟨zt1, h, gt1⟩ := bnd_some h
 refine W.r_cut (fun (t1 : (List (Int))) => ⟨[(3, .sl 1)], [(1, some (.arr 1 (List.map Gx.encI t1) true))], 1000⟩) (fun t => t = zt1) ?_ ?_
 ·refine avb ?_
  refine loop_lp (fun (p1 : (List (Int)) × Int) => ⟨[(0, .d (D.s v0)), (3, .sl 1), (4, .d (D.i p1.2))], [(1, some (.arr 1 (List.map Gx.encI p1.1) true))], 1000⟩) h ?_ ?_
  ·exact weak_by
  intro np1 p1 yp1 h hfp1
  unfold s_LettersOf_L1 at h
  refine avb ?_
  refine lns (v0.length : Int) ?_
  refine avb ?_
  refine brb h ?_ ?_<;>intro _ h
  ·refine chk_sel h (fun q => q) (fun h => ?_)
   refine avb ?_
   refine app_sel h (app_ok (by (first|rfl|simp [sub])) (by (first|rfl|simp [sub])) (by decide)) (by (intro h; cases h)) (fun h => ?_)
   refine avb ?_
   exact lbk hfp1 h
  ·have h := finr hfp1 h
   refine cut_at (p1.1) (some_in h) ?_
   exact weak_by
 rintro t1 rfl
 have h : _ = some _ := gt1
 refine avb ?_
 cases h;exact eq_by

theorem s_Mod_ok (N : Nat) (v0 : Int) (v1 : Int) {r : Int} (h : s_Mod N v0 v1 = some r) : Pure Tryz.prog 232 [DV.one (D.i v0), DV.one (D.i v1)] (DV.one (D.i r)) := by
 refine pure_of_walk Tryz.tok Tryz.mixed Tryz.func232 (by kernel_rfl) fun W => ?_
 unfold s_Mod at h
 refine avb ?_
 refine plb ?_;refine call_sel (E := fun (x : Bool) => DV.one (D.b x)) h (fun x1 h1 => (s_l1In_ok N v1 1 1000000000000 h1)) (fun x1 hx1 h => ?_)
 refine avb ?_
 refine brb h ?_ ?_<;>intro _ h
 ·cases h;exact eq_by
 ·refine chk_sel h (fun q => q) (fun h => ?_)
  refine avb ?_
  refine chk_sel h (fun q => q) (fun h => ?_)
  refine avb ?_
  cases h;exact eq_by

theorem s_Hash_ok (N : Nat) (v0 : List (Int)) {r : Int} (h : s_Hash N v0 = some r) : Pure Tryz.prog 227 [DV.one (D.sl 1 (List.map Gx.encI v0))] (DV.one (D.i r)) := by
 refine pure_of_walk Tryz.tok Tryz.mixed Tryz.func227 (by kernel_rfl) fun W => ?_
 unfold s_Hash at h
 refine ab0 ?_
 refine W.r_seq ?_
 refine ab0 ?_
 refine W.r_seq ?_
 refine ab0 ?_
 obtain ⟨zt3, h, gt3⟩ := bnd_some h
 refine W.r_cut (fun (t3 : Int) => ⟨[(3, .d (D.i t3))], [], 1000⟩) (fun t => t = zt3) ?_ ?_
 ·refine avb ?_
  refine loop_lp (fun (p1 : Int × Int) => ⟨[(0, .d (D.sl 1 (List.map Gx.encI v0))), (3, .d (D.i p1.1)), (4, .d (D.i p1.2))], [], 1000⟩) h ?_ ?_
  ·exact weak_by
  intro np1 p1 yp1 h hfp1
  unfold s_Hash_L1 at h
  refine avb ?_
  refine lns (v0.length : Int) ?_
  refine avb ?_
  refine brb h ?_ ?_<;>intro _ h
  ·refine idx_sel h (fun x1 hx1 h => ?_)
   refine avb ?_
   refine plb ?_;refine call_sel (E := fun (x : Int) => DV.one (D.i x)) h (fun x2 h1 => (s_Mod_ok N x1 2147483647 h1)) (fun x2 hx2 h => ?_)
   refine avb ?_
   refine chk_sel h (fun q => q) (fun h => ?_)
   refine avb ?_
   exact lbk hfp1 h
  ·have h := finr hfp1 h
   refine cut_at (p1.1) (some_in h) ?_
   exact weak_by
 rintro t3 rfl
 have h : _ = some _ := gt3
 refine avb ?_
 cases h;exact eq_by

theorem s_SealAnswer_ok (N : Nat) (v0 : Int) (v1 : Int) (v2 : List UInt8) {r : Int} (h : s_SealAnswer N v0 v1 v2 = some r) : Pure Tryz.prog 222 [DV.one (D.i v0), DV.one (D.i v1), DV.one (D.s v2)] (DV.one (D.i r)) := by
 refine pure_of_walk Tryz.tok Tryz.mixed Tryz.func222 (by kernel_rfl) fun W => ?_
 unfold s_SealAnswer at h
 refine avb ?_
 refine plb ?_;refine call_sel (E := fun (x : Bool) => DV.one (D.b x)) h (fun x1 h1 => (s_IsWord_ok N v2 h1)) (fun x1 hx1 h => ?_)
 refine avb ?_
 refine brb h ?_ ?_<;>intro _ h
 ·cases h;exact eq_by
 ·refine lns (v2.length : Int) ?_
  refine avb ?_
  refine plb ?_;refine call_sel (E := fun (x : (List (Int))) => DV.one (D.sl 1 (List.map Gx.encI x))) h (fun x2 h1 => (s_LettersOf_ok N v2 h1)) (fun x2 hx2 h => ?_)
  refine avb ?_
  refine app_sel h (app_ok (by (first|rfl|simp [sub])) (by (first|rfl|simp [sub])) (by decide)) (by (intro h; cases h)) (fun h => ?_)
  refine avb ?_
  refine plb ?_;refine call_sel (E := fun (x : Int) => DV.one (D.i x)) h (fun x3 h1 => (pure_args (by (exact eq_by)) (s_Hash_ok N (([v0, v1, (v2.length : Int)]) ++ x2) h1))) (fun x3 hx3 h => ?_)
  refine avb ?_
  cases h;exact eq_by

theorem s_ChecksAnswer_ok (N : Nat) (v0 : List (Int)) (v1 : Int) (v2 : Int) (v3 : List UInt8) {r : Bool} (h : s_ChecksAnswer N v0 v1 v2 v3 = some r) : Pure Tryz.prog 209 [DV.one (D.sl 1 (List.map Gx.encI v0)), DV.one (D.i v1), DV.one (D.i v2), DV.one (D.s v3)] (DV.one (D.b r)) := by
 refine pure_of_walk Tryz.tok Tryz.mixed Tryz.func209 (by kernel_rfl) fun W => ?_
 unfold s_ChecksAnswer at h
 refine avb ?_
 refine lns (v0.length : Int) ?_
 refine avb ?_
 refine plb ?_;refine call_sel (E := fun (x : Bool) => DV.one (D.b x)) h (fun x1 h1 => (s_l1In_ok N v2 0 (w64 ((v0.length : Int) - 1)) h1)) (fun x1 hx1 h => ?_)
 refine avb ?_
 refine brb h ?_ ?_<;>intro _ h
 ·refine plb ?_;refine call_sel (E := fun (x : Bool) => DV.one (D.b x)) h (fun x2 h1 => (s_IsWord_ok N v3 h1)) (fun x2 hx2 h => ?_)
  refine avb ?_
  refine brb h ?_ ?_<;>intro _ h
  ·refine plb ?_;refine call_sel (E := fun (x : Int) => DV.one (D.i x)) h (fun x3 h1 => (s_SealAnswer_ok N v1 v2 v3 h1)) (fun x3 hx3 h => ?_)
   refine avb ?_
   refine idx_sel h (fun x4 hx4 h => ?_)
   refine avb ?_
   cases h;exact eq_by
  ·cases h;exact eq_by
 ·cases h;exact eq_by

theorem s_RightSlots_ok (N : Nat) (v0 : Gx.Grid) (v1 : List UInt8) (v2 : List (Int)) (v3 : Int) {r : (List (Int))} (h : s_RightSlots N v0 v1 v2 v3 = some r) : Pure Tryz.prog 188 [DV.agg (Gx.Grid.enc v0), DV.one (D.s v1), DV.one (D.sl 1 (List.map Gx.encI v2)), DV.one (D.i v3)] (DV.one (D.sl 1 (List.map Gx.encI r))) := by
 refine pure_of_walk Tryz.tok Tryz.mixed Tryz.func188 (by kernel_rfl) fun W => ?_
 unfold s_RightSlots at h
 refine avb ?_
 refine plb ?_;refine call_sel (E := fun (x : (List (Gx.Slot))) => DV.one (D.sl 4 (List.map Gx.Slot.enc x))) h (fun x1 h1 => (s_SlotsOf_ok N v0 h1)) (fun x1 hx1 h => ?_)
 refine ab0 ?_
 obtain ⟨zt5, h, gt5⟩ := bnd_some h
 refine W.r_cut (fun (t5 : (List (Int))) => ⟨[(9, .sl 1)], [(1, some (.arr 1 (List.map Gx.encI t5) true))], 1000⟩) (fun t => t = zt5) ?_ ?_
 ·refine avb ?_
  refine loop_lp (fun (p1 : (List (Int)) × Int) => ⟨[(1, .d (D.s v1)), (2, .d (D.sl 1 (List.map Gx.encI v2))), (3, .d (D.i v3)), (4, .ptr 1 0 0), (9, .sl 2), (10, .sl 3), (11, .d (D.i p1.2))], [(1, some (.box [.d (D.i v0.mRows), .d (D.i v0.mCols), .d (D.s v0.mCells)])), (2, some (.arr 1 (List.map Gx.encI p1.1) true)), (3, some (.arr 4 (List.map Gx.Slot.enc x1) true))], 1000⟩) h ?_ ?_
  ·exact weak_by
  intro np1 p1 yp1 h hfp1
  unfold s_RightSlots_L1 at h
  refine avb ?_
  refine lns (x1.length : Int) ?_
  refine avb ?_
  refine brb h ?_ ?_<;>intro _ h
  ·refine plb ?_;refine call_sel (E := fun (x : Bool) => DV.one (D.b x)) h (fun x2 h1 => (s_IsFill_ok N v0 v1 h1)) (fun x2 hx2 h => ?_)
   refine avb ?_
   refine brb h ?_ ?_<;>intro _ h
   ·refine plb ?_;refine call_sel (E := fun (x : (List UInt8)) => DV.one (D.s x)) h (fun x3 h1 => (s_SlotPattern_ok N v0 v1 p1.2 h1)) (fun x3 hx3 h => ?_)
    refine avb ?_
    refine plb ?_;refine call_sel (E := fun (x : Bool) => DV.one (D.b x)) h (fun x4 h1 => (s_ChecksAnswer_ok N v2 v3 p1.2 x3 h1)) (fun x4 hx4 h => ?_)
    refine avb ?_
    refine brb h ?_ ?_<;>intro _ h
    ·refine app_sel h (app_ok (by (first|rfl|simp [sub])) (by (first|rfl|simp [sub])) (by decide)) (by (intro h; cases h)) (fun h => ?_)
     refine avb ?_
     exact lbk hfp1 h
    ·exact lbk hfp1 h
   ·have h := finr hfp1 h
    refine cut_at (p1.1) (some_in h) ?_
    exact weak_by
  ·have h := finr hfp1 h
   refine cut_at (p1.1) (some_in h) ?_
   exact weak_by
 rintro t5 rfl
 have h : _ = some _ := gt5
 refine avb ?_
 cases h;exact eq_by

theorem s_IsSolved_ok (N : Nat) (v0 : Gx.Puzzle) (v1 : List UInt8) {r : Bool} (h : s_IsSolved N v0 v1 = some r) : Pure Tryz.prog 151 [DV.agg (Gx.Puzzle.enc v0), DV.one (D.s v1)] (DV.one (D.b r)) := by
 refine pure_of_walk Tryz.tok Tryz.mixed Tryz.func151 (by kernel_rfl) fun W => ?_
 unfold s_IsSolved at h
 refine avb ?_
 refine plb ?_;refine call_sel (E := fun (x : Bool) => DV.one (D.b x)) h (fun x1 h1 => (s_IsPuzzle_ok N v0 h1)) (fun x1 hx1 h => ?_)
 refine avb ?_
 refine brb h ?_ ?_<;>intro _ h
 ·refine plb ?_;refine call_sel (E := fun (x : Bool) => DV.one (D.b x)) h (fun x2 h1 => (s_IsFull_ok N v0.mGrid v1 h1)) (fun x2 hx2 h => ?_)
  refine avb ?_
  refine brb h ?_ ?_<;>intro _ h
  ·refine plb ?_;refine call_sel (E := fun (x : (List (Int))) => DV.one (D.sl 1 (List.map Gx.encI x))) h (fun x3 h1 => (s_RightSlots_ok N v0.mGrid v1 v0.mSeals v0.mSalt h1)) (fun x3 hx3 h => ?_)
   refine avb ?_
   refine lns (x3.length : Int) ?_
   refine avb ?_
   refine lns (v0.mClues.length : Int) ?_
   refine avb ?_
   cases h;exact eq_by
  ·cases h;exact eq_by
 ·cases h;exact eq_by

theorem s_IsIssue_ok (N : Nat) (v0 : Gx.Issue) {r : Bool} (h : s_IsIssue N v0 = some r) : Pure Tryz.prog 110 [DV.agg (Gx.Issue.enc v0)] (DV.one (D.b r)) := by
 refine pure_of_walk Tryz.tok Tryz.mixed Tryz.func110 (by kernel_rfl) fun W => ?_
 unfold s_IsIssue at h
 refine avb ?_
 refine plb ?_;refine call_sel (E := fun (x : Bool) => DV.one (D.b x)) h (fun x1 h1 => (s_l1In_ok N v0.mNumber 1 999 h1)) (fun x1 hx1 h => ?_)
 refine avb ?_
 refine brb h ?_ ?_<;>intro _ h
 ·refine plb ?_;refine call_sel (E := fun (x : Bool) => DV.one (D.b x)) h (fun x2 h1 => (s_IsSolved_ok N v0.mPuzzle v0.mFill h1)) (fun x2 hx2 h => ?_)
  refine avb ?_
  refine brb h ?_ ?_<;>intro _ h
  ·refine brb h ?_ ?_<;>intro _ h
   ·refine brb h ?_ ?_<;>intro _ h
    ·cases h;exact eq_by
    ·cases h;exact eq_by
   ·cases h;exact eq_by
  ·cases h;exact eq_by
 ·cases h;exact eq_by

theorem s_BeforeWord_ok (N : Nat) (v0 : List UInt8) (v1 : List UInt8) {r : Bool} (h : s_BeforeWord N v0 v1 = some r) : Pure Tryz.prog 152 [DV.one (D.s v0), DV.one (D.s v1)] (DV.one (D.b r)) := by
 refine pure_of_walk Tryz.tok Tryz.mixed Tryz.func152 (by kernel_rfl) fun W => ?_
 unfold s_BeforeWord at h
 refine avb ?_
 refine lns (v0.length : Int) ?_
 refine avb ?_
 refine lns (v1.length : Int) ?_
 refine avb ?_
 refine brb h ?_ ?_<;>intro _ h
 ·refine lns (v0.length : Int) ?_
  refine avb ?_
  refine lns (v1.length : Int) ?_
  refine avb ?_
  cases h;exact eq_by
 ·cases h;exact eq_by

theorem s_IsList_ok (N : Nat) (v0 : List (Gx.Listed)) {r : Bool} (h : s_IsList N v0 = some r) : Pure Tryz.prog 111 [DV.one (D.sl 4 (List.map Gx.Listed.enc v0))] (DV.one (D.b r)) := by
 refine pure_of_walk Tryz.tok Tryz.mixed Tryz.func111 (by kernel_rfl) fun W => ?_
 unfold s_IsList at h
 refine ab0 ?_
 refine W.r_seq ?_
 refine ab0 ?_
 obtain ⟨zt6, h, gt6⟩ := cutb_some h
 refine W.r_cut (fun (t6 : Unit) => ⟨[(0, .d (D.sl 4 (List.map Gx.Listed.enc v0)))], [], 1000⟩) (fun t => .nx t = zt6) ?_ ?_
 ·refine avb ?_
  refine loop_lp (fun (p1 : Int) => ⟨[(0, .d (D.sl 4 (List.map Gx.Listed.enc v0))), (3, .d (D.i p1))], [], 1000⟩) h ?_ ?_
  ·exact weak_by
  intro np1 p1 yp1 h hfp1
  unfold s_IsList_L1 at h
  refine avb ?_
  refine lns (v0.length : Int) ?_
  refine avb ?_
  refine brb h ?_ ?_<;>intro _ h
  ·refine idx_sel h (fun x1 hx1 h => ?_)
   refine avb ?_
   refine plb ?_;refine call_sel (E := fun (x : Bool) => DV.one (D.b x)) h (fun x2 h1 => (s_IsWord_ok N x1.mWord h1)) (fun x2 hx2 h => ?_)
   refine avb ?_
   refine brb h ?_ ?_<;>intro _ h
   ·have h := finr hfp1 h
    have h := cutr gt6 h
    cases h;exact eq_by
   ·refine brb h ?_ ?_<;>intro _ h
    ·have h := finr hfp1 h
     have h := cutr gt6 h
     cases h;exact eq_by
    ·refine brb h ?_ ?_<;>intro _ h
     ·have h := finr hfp1 h
      have h := cutr gt6 h
      cases h;exact eq_by
     ·refine brb h ?_ ?_<;>intro _ h
      ·have h := finr hfp1 h
       have h := cutr gt6 h
       cases h;exact eq_by
      ·refine plb ?_;refine call_sel (E := fun (x : Bool) => DV.one (D.b x)) h (fun x3 h1 => (s_l1In_ok N x1.mScore 0 99 h1)) (fun x3 hx3 h => ?_)
       refine avb ?_
       refine brb h ?_ ?_<;>intro _ h
       ·have h := finr hfp1 h
        have h := cutr gt6 h
        cases h;exact eq_by
       ·refine brb h ?_ ?_<;>intro _ h
        ·refine idx_sel h (fun x4 hx4 h => ?_)
         refine avb ?_
         refine plb ?_;refine call_sel (E := fun (x : Bool) => DV.one (D.b x)) h (fun x5 h1 => (s_BeforeWord_ok N x4.mWord x1.mWord h1)) (fun x5 hx5 h => ?_)
         refine avb ?_
         refine brb h ?_ ?_<;>intro _ h
         ·have h := finr hfp1 h
          have h := cutr gt6 h
          cases h;exact eq_by
         ·exact lbk hfp1 h
        ·exact lbk hfp1 h
  ·have h := finr hfp1 h
   refine cut_at (()) (some_in h) ?_
   exact weak_by
 rintro t6 rfl
 have h : _ = some _ := gt6
 refine avb ?_
 refine lns (v0.length : Int) ?_
 refine avb ?_
 cases h;exact eq_by

theorem s_l17Before_ok (N : Nat) (v0 : Gx.Meaning) (v1 : Gx.Meaning) {r : Bool} (h : s_l17Before N v0 v1 = some r) : Pure Tryz.prog 153 [DV.agg (Gx.Meaning.enc v0), DV.agg (Gx.Meaning.enc v1)] (DV.one (D.b r)) := by
 refine pure_of_walk Tryz.tok Tryz.mixed Tryz.func153 (by kernel_rfl) fun W => ?_
 unfold s_l17Before at h
 refine avb ?_
 refine plb ?_;refine call_sel (E := fun (x : Bool) => DV.one (D.b x)) h (fun x1 h1 => (s_BeforeWord_ok N v0.mWord v1.mWord h1)) (fun x1 hx1 h => ?_)
 refine avb ?_
 refine brb h ?_ ?_<;>intro _ h
 ·cases h;exact eq_by
 ·refine brb h ?_ ?_<;>intro _ h
  ·cases h;exact eq_by
  ·cases h;exact eq_by

theorem s_IsDictionary_ok (N : Nat) (v0 : List (Gx.Meaning)) {r : Bool} (h : s_IsDictionary N v0 = some r) : Pure Tryz.prog 112 [DV.one (D.sl 2 (List.map Gx.Meaning.enc v0))] (DV.one (D.b r)) := by
 refine pure_of_walk Tryz.tok Tryz.mixed Tryz.func112 (by kernel_rfl) fun W => ?_
 unfold s_IsDictionary at h
 refine ab0 ?_
 refine W.r_seq ?_
 refine ab0 ?_
 obtain ⟨zt8, h, gt8⟩ := cutb_some h
 refine W.r_cut (fun (t8 : Unit) => ⟨[(0, .d (D.sl 2 (List.map Gx.Meaning.enc v0)))], [], 1000⟩) (fun t => .nx t = zt8) ?_ ?_
 ·refine avb ?_
  refine loop_lp (fun (p1 : Int) => ⟨[(0, .d (D.sl 2 (List.map Gx.Meaning.enc v0))), (3, .d (D.i p1))], [], 1000⟩) h ?_ ?_
  ·exact weak_by
  intro np1 p1 yp1 h hfp1
  unfold s_IsDictionary_L1 at h
  refine avb ?_
  refine lns (v0.length : Int) ?_
  refine avb ?_
  refine brb h ?_ ?_<;>intro _ h
  ·refine idx_sel h (fun x1 hx1 h => ?_)
   refine avb ?_
   refine plb ?_;refine call_sel (E := fun (x : Bool) => DV.one (D.b x)) h (fun x2 h1 => (s_IsWord_ok N x1.mWord h1)) (fun x2 hx2 h => ?_)
   refine avb ?_
   refine brb h ?_ ?_<;>intro _ h
   ·have h := finr hfp1 h
    have h := cutr gt8 h
    cases h;exact eq_by
   ·refine idx_sel h (fun x3 hx3 h => ?_)
    refine avb ?_
    refine plb ?_;refine call_sel (E := fun (x : Bool) => DV.one (D.b x)) h (fun x4 h1 => (s_l1In_ok N x3.mSense 1 99 h1)) (fun x4 hx4 h => ?_)
    refine avb ?_
    refine brb h ?_ ?_<;>intro _ h
    ·have h := finr hfp1 h
     have h := cutr gt8 h
     cases h;exact eq_by
    ·refine brb h ?_ ?_<;>intro _ h
     ·refine idx_sel h (fun x5 hx5 h => ?_)
      refine avb ?_
      refine idx_sel h (fun x6 hx6 h => ?_)
      refine avb ?_
      refine plb ?_;refine call_sel (E := fun (x : Bool) => DV.one (D.b x)) h (fun x7 h1 => (s_l17Before_ok N x5 x6 h1)) (fun x7 hx7 h => ?_)
      refine avb ?_
      refine brb h ?_ ?_<;>intro _ h
      ·have h := finr hfp1 h
       have h := cutr gt8 h
       cases h;exact eq_by
      ·exact lbk hfp1 h
     ·exact lbk hfp1 h
  ·have h := finr hfp1 h
   refine cut_at (()) (some_in h) ?_
   exact weak_by
 rintro t8 rfl
 have h : _ = some _ := gt8
 refine avb ?_
 refine lns (v0.length : Int) ?_
 refine avb ?_
 cases h;exact eq_by

theorem s_l33Zero_ok (N : Nat) (v0 : Gx.Draft) {r : Bool} (h : s_l33Zero N v0 = some r) : Pure Tryz.prog 113 [DV.agg (Gx.Draft.enc v0)] (DV.one (D.b r)) := by
 refine pure_of_walk Tryz.tok Tryz.mixed Tryz.func113 (by kernel_rfl) fun W => ?_
 unfold s_l33Zero at h
 refine avb ?_
 refine brb h ?_ ?_<;>intro _ h
 ·refine brb h ?_ ?_<;>intro _ h
  ·refine lns (v0.mClues.length : Int) ?_
   refine avb ?_
   refine brb h ?_ ?_<;>intro _ h
   ·cases h;exact eq_by
   ·cases h;exact eq_by
  ·cases h;exact eq_by
 ·cases h;exact eq_by

theorem s_IssueOf_ok (N : Nat) (v0 : Gx.House) (v1 : Int) {r : Gx.Issue × Bool} (h : s_IssueOf N v0 v1 = some r) : Pure Tryz.prog 154 [DV.agg (Gx.House.enc v0), DV.one (D.i v1)] (DV.tup [DV.agg (Gx.Issue.enc r.1), DV.one (D.b r.2)]) := by
 refine pure_of_walk Tryz.tok Tryz.mixed Tryz.func154 (by kernel_rfl) fun W => ?_
 unfold s_IssueOf at h
 refine ab0 ?_
 refine W.r_seq ?_
 refine ab0 ?_
 obtain ⟨zt4, h, gt4⟩ := cutb_some h
 refine W.r_cut (fun (t4 : Unit) => ⟨[(4, .ptr 1 0 0)], [(1, some (.box [.d (D.i 0), .d (D.i 0), .d (D.i 0), .d (D.s ([] : List UInt8)), .d (D.sl 2 (List.map Gx.Clue.enc ([]))), .d (D.sl 1 (List.map Gx.encI ([]))), .d (D.i 0), .d (D.s ([] : List UInt8)), .d (D.i 0), .d (D.i 0)]))], 1000⟩) (fun t => .nx t = zt4) ?_ ?_
 ·refine avb ?_
  refine loop_lp (fun (p1 : Int) => ⟨[(1, .d (D.i v1)), (2, .ptr 1 0 0), (4, .ptr 2 0 0), (6, .d (D.i p1))], [(1, some (.box [.d (D.sl 4 (List.map Gx.Listed.enc v0.mList)), .d (D.sl 2 (List.map Gx.Meaning.enc v0.mDict)), .d (D.i v0.mDesk.mGrid.mRows), .d (D.i v0.mDesk.mGrid.mCols), .d (D.s v0.mDesk.mGrid.mCells), .d (D.s v0.mDesk.mFill), .d (D.sl 2 (List.map Gx.Clue.enc v0.mDesk.mClues)), .d (D.i v0.mDesk.mVersion), .d (D.sl 10 (List.map Gx.Issue.enc v0.mIssues)), .d (D.sl 2 (List.map Gx.Used.enc v0.mUses)), .d (D.sl 5 (List.map Gx.Correction.enc v0.mCorrections)), .d (D.sl 4 (List.map Gx.Entry.enc v0.mEntries)), .d (D.i v0.mNow)])), (2, some (.box [.d (D.i 0), .d (D.i 0), .d (D.i 0), .d (D.s ([] : List UInt8)), .d (D.sl 2 (List.map Gx.Clue.enc ([]))), .d (D.sl 1 (List.map Gx.encI ([]))), .d (D.i 0), .d (D.s ([] : List UInt8)), .d (D.i 0), .d (D.i 0)]))], 1000⟩) h ?_ ?_
  ·exact weak_by
  intro np1 p1 yp1 h hfp1
  unfold s_IssueOf_L1 at h
  refine avb ?_
  refine lns (v0.mIssues.length : Int) ?_
  refine avb ?_
  refine brb h ?_ ?_<;>intro _ h
  ·refine idx_sel h (fun x1 hx1 h => ?_)
   refine avb ?_
   refine brb h ?_ ?_<;>intro _ h
   ·refine idx_sel h (fun x2 hx2 h => ?_)
    refine avb ?_
    refine plb ?_;refine call_sel (E := fun (x : Gx.Issue) => DV.agg (Gx.Issue.enc x)) h (fun x3 h1 => (s_l30Copy_ok N x2 h1)) (fun x3 hx3 h => ?_)
    refine avb ?_
    have h := finr hfp1 h
    have h := cutr gt4 h
    cases h;exact eq_by
   ·exact lbk hfp1 h
  ·have h := finr hfp1 h
   refine cut_at (()) (some_in h) ?_
   exact weak_by
 rintro t4 rfl
 have h : _ = some _ := gt4
 refine avb ?_
 cases h;exact eq_by

theorem s_IsOpen_ok (N : Nat) (v0 : Gx.Issue) (v1 : Int) {r : Bool} (h : s_IsOpen N v0 v1 = some r) : Pure Tryz.prog 189 [DV.agg (Gx.Issue.enc v0), DV.one (D.i v1)] (DV.one (D.b r)) := by
 refine pure_of_walk Tryz.tok Tryz.mixed Tryz.func189 (by kernel_rfl) fun W => ?_
 unfold s_IsOpen at h
 refine avb ?_
 refine brb h ?_ ?_<;>intro _ h
 ·cases h;exact eq_by
 ·cases h;exact eq_by

theorem s_IsEntry_ok (N : Nat) (v0 : Gx.Entry) (v1 : Gx.Issue) {r : Bool} (h : s_IsEntry N v0 v1 = some r) : Pure Tryz.prog 155 [DV.agg (Gx.Entry.enc v0), DV.agg (Gx.Issue.enc v1)] (DV.one (D.b r)) := by
 refine pure_of_walk Tryz.tok Tryz.mixed Tryz.func155 (by kernel_rfl) fun W => ?_
 unfold s_IsEntry at h
 refine avb ?_
 refine plb ?_;refine call_sel (E := fun (x : Bool) => DV.one (D.b x)) h (fun x1 h1 => (s_l1In_ok N v0.mPlayer 1 99 h1)) (fun x1 hx1 h => ?_)
 refine avb ?_
 refine brb h ?_ ?_<;>intro _ h
 ·refine brb h ?_ ?_<;>intro _ h
  ·refine plb ?_;refine call_sel (E := fun (x : Bool) => DV.one (D.b x)) h (fun x2 h1 => (s_IsIssue_ok N v1 h1)) (fun x2 hx2 h => ?_)
   refine avb ?_
   refine brb h ?_ ?_<;>intro _ h
   ·refine plb ?_;refine call_sel (E := fun (x : Bool) => DV.one (D.b x)) h (fun x3 h1 => (s_IsOpen_ok N v1 v0.mTick h1)) (fun x3 hx3 h => ?_)
    refine avb ?_
    refine brb h ?_ ?_<;>intro _ h
    ·refine plb ?_;refine call_sel (E := fun (x : Bool) => DV.one (D.b x)) h (fun x4 h1 => (s_IsFill_ok N v1.mPuzzle.mGrid v0.mFill h1)) (fun x4 hx4 h => ?_)
     refine avb ?_
     cases h;exact eq_by
    ·cases h;exact eq_by
   ·cases h;exact eq_by
  ·cases h;exact eq_by
 ·cases h;exact eq_by

theorem s_l29Before_ok (N : Nat) (v0 : Gx.Used) (v1 : Gx.Used) {r : Bool} (h : s_l29Before N v0 v1 = some r) : Pure Tryz.prog 190 [DV.agg (Gx.Used.enc v0), DV.agg (Gx.Used.enc v1)] (DV.one (D.b r)) := by
 refine pure_of_walk Tryz.tok Tryz.mixed Tryz.func190 (by kernel_rfl) fun W => ?_
 unfold s_l29Before at h
 refine avb ?_
 refine brb h ?_ ?_<;>intro _ h
 ·cases h;exact eq_by
 ·refine brb h ?_ ?_<;>intro _ h
  ·refine plb ?_;refine call_sel (E := fun (x : Bool) => DV.one (D.b x)) h (fun x1 h1 => (s_BeforeWord_ok N v0.mWord v1.mWord h1)) (fun x1 hx1 h => ?_)
   refine avb ?_
   cases h;exact eq_by
  ·cases h;exact eq_by

theorem s_AreUses_ok (N : Nat) (v0 : List (Gx.Used)) {r : Bool} (h : s_AreUses N v0 = some r) : Pure Tryz.prog 156 [DV.one (D.sl 2 (List.map Gx.Used.enc v0))] (DV.one (D.b r)) := by
 refine pure_of_walk Tryz.tok Tryz.mixed Tryz.func156 (by kernel_rfl) fun W => ?_
 unfold s_AreUses at h
 refine ab0 ?_
 refine W.r_seq ?_
 refine ab0 ?_
 obtain ⟨zt8, h, gt8⟩ := cutb_some h
 refine W.r_cut (fun (t8 : Unit) => ⟨[(0, .d (D.sl 2 (List.map Gx.Used.enc v0)))], [], 1000⟩) (fun t => .nx t = zt8) ?_ ?_
 ·refine avb ?_
  refine loop_lp (fun (p1 : Int) => ⟨[(0, .d (D.sl 2 (List.map Gx.Used.enc v0))), (3, .d (D.i p1))], [], 1000⟩) h ?_ ?_
  ·exact weak_by
  intro np1 p1 yp1 h hfp1
  unfold s_AreUses_L1 at h
  refine avb ?_
  refine lns (v0.length : Int) ?_
  refine avb ?_
  refine brb h ?_ ?_<;>intro _ h
  ·refine idx_sel h (fun x1 hx1 h => ?_)
   refine avb ?_
   refine plb ?_;refine call_sel (E := fun (x : Bool) => DV.one (D.b x)) h (fun x2 h1 => (s_IsWord_ok N x1.mWord h1)) (fun x2 hx2 h => ?_)
   refine avb ?_
   refine brb h ?_ ?_<;>intro _ h
   ·have h := finr hfp1 h
    have h := cutr gt8 h
    cases h;exact eq_by
   ·refine idx_sel h (fun x3 hx3 h => ?_)
    refine avb ?_
    refine plb ?_;refine call_sel (E := fun (x : Bool) => DV.one (D.b x)) h (fun x4 h1 => (s_l1In_ok N x3.mIssue 1 999 h1)) (fun x4 hx4 h => ?_)
    refine avb ?_
    refine brb h ?_ ?_<;>intro _ h
    ·have h := finr hfp1 h
     have h := cutr gt8 h
     cases h;exact eq_by
    ·refine brb h ?_ ?_<;>intro _ h
     ·refine idx_sel h (fun x5 hx5 h => ?_)
      refine avb ?_
      refine idx_sel h (fun x6 hx6 h => ?_)
      refine avb ?_
      refine plb ?_;refine call_sel (E := fun (x : Bool) => DV.one (D.b x)) h (fun x7 h1 => (s_l29Before_ok N x5 x6 h1)) (fun x7 hx7 h => ?_)
      refine avb ?_
      refine brb h ?_ ?_<;>intro _ h
      ·have h := finr hfp1 h
       have h := cutr gt8 h
       cases h;exact eq_by
      ·exact lbk hfp1 h
     ·exact lbk hfp1 h
  ·have h := finr hfp1 h
   refine cut_at (()) (some_in h) ?_
   exact weak_by
 rintro t8 rfl
 have h : _ = some _ := gt8
 refine avb ?_
 refine lns (v0.length : Int) ?_
 refine avb ?_
 cases h;exact eq_by

theorem s_AreCorrections_ok (N : Nat) (v0 : List (Gx.Correction)) {r : Bool} (h : s_AreCorrections N v0 = some r) : Pure Tryz.prog 157 [DV.one (D.sl 5 (List.map Gx.Correction.enc v0))] (DV.one (D.b r)) := by
 refine pure_of_walk Tryz.tok Tryz.mixed Tryz.func157 (by kernel_rfl) fun W => ?_
 unfold s_AreCorrections at h
 refine ab0 ?_
 refine W.r_seq ?_
 refine ab0 ?_
 obtain ⟨zt7, h, gt7⟩ := cutb_some h
 refine W.r_cut (fun (t7 : Unit) => ⟨[(0, .d (D.sl 5 (List.map Gx.Correction.enc v0)))], [], 1000⟩) (fun t => .nx t = zt7) ?_ ?_
 ·refine avb ?_
  refine loop_lp (fun (p1 : Int) => ⟨[(0, .d (D.sl 5 (List.map Gx.Correction.enc v0))), (3, .d (D.i p1))], [], 1000⟩) h ?_ ?_
  ·exact weak_by
  intro np1 p1 yp1 h hfp1
  unfold s_AreCorrections_L1 at h
  refine avb ?_
  refine lns (v0.length : Int) ?_
  refine avb ?_
  refine brb h ?_ ?_<;>intro _ h
  ·refine idx_sel h (fun x1 hx1 h => ?_)
   refine avb ?_
   refine plb ?_;refine call_sel (E := fun (x : Bool) => DV.one (D.b x)) h (fun x2 h1 => (s_l1In_ok N x1.mIssue 1 999 h1)) (fun x2 hx2 h => ?_)
   refine avb ?_
   refine brb h ?_ ?_<;>intro _ h
   ·have h := finr hfp1 h
    have h := cutr gt7 h
    cases h;exact eq_by
   ·refine plb ?_;refine call_sel (E := fun (x : Bool) => DV.one (D.b x)) h (fun x3 h1 => (s_l1In_ok N x1.mSlot 0 99 h1)) (fun x3 hx3 h => ?_)
    refine avb ?_
    refine brb h ?_ ?_<;>intro _ h
    ·have h := finr hfp1 h
     have h := cutr gt7 h
     cases h;exact eq_by
    ·refine plb ?_;refine call_sel (E := fun (x : Bool) => DV.one (D.b x)) h (fun x4 h1 => (s_IsClue_ok N x1.mClue h1)) (fun x4 hx4 h => ?_)
     refine avb ?_
     refine brb h ?_ ?_<;>intro _ h
     ·have h := finr hfp1 h
      have h := cutr gt7 h
      cases h;exact eq_by
     ·refine plb ?_;refine call_sel (E := fun (x : Bool) => DV.one (D.b x)) h (fun x5 h1 => (s_l1In_ok N x1.mTick 0 1000 h1)) (fun x5 hx5 h => ?_)
      refine avb ?_
      refine brb h ?_ ?_<;>intro _ h
      ·have h := finr hfp1 h
       have h := cutr gt7 h
       cases h;exact eq_by
      ·refine brb h ?_ ?_<;>intro _ h
       ·refine idx_sel h (fun x6 hx6 h => ?_)
        refine avb ?_
        refine brb h ?_ ?_<;>intro _ h
        ·have h := finr hfp1 h
         have h := cutr gt7 h
         cases h;exact eq_by
        ·exact lbk hfp1 h
       ·exact lbk hfp1 h
  ·have h := finr hfp1 h
   refine cut_at (()) (some_in h) ?_
   exact weak_by
 rintro t7 rfl
 have h : _ = some _ := gt7
 refine avb ?_
 refine lns (v0.length : Int) ?_
 refine avb ?_
 cases h;exact eq_by

end Lw
end Go.Proofs
