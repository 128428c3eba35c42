/- PRINTED BY gen.py (mine): their contracts. -/
import Derived.Test.YtgmppfmemimkkaaDoorAvHpFormatSlots
namespace Go.Proofs
open Go Go.Av
set_option maxRecDepth 100000
set_option maxHeartbeats 40000000
set_option linter.unusedVariables false
set_option linter.unusedSimpArgs false
namespace Lw
theorem l_szGrid_ok (N : Nat) (v0 : Gx.Grid) (v1 : Int) {r : Int} (h : l_szGrid N v0 v1 = some r) : Pure Tryd.prog 10 [DV.agg (Gx.Grid.enc v0), DV.one (D.i v1)] (DV.one (D.i r)) := by
 refine pure_of_walk Tryd.tok Tryd.mixed Tryd.func10 (by kernel_rfl) fun W => ?_
 unfold l_szGrid at h
 refine avb ?_
 refine lns (v0.mCells.length : Int) ?_
 refine avb ?_
 refine brb h ?_ ?_<;>intro _ h
 ·cases h;exact eq_by
 ·cases h;exact eq_by

theorem l_toGrid_ok (N : Nat) (v0 : Gx.Grid) {r : Gx.Grid} (h : l_toGrid N v0 = some r) : Pure Tryd.prog 12 [DV.agg (Gx.Grid.enc v0)] (DV.agg (Gx.Grid.enc r)) := by
 refine pure_of_walk Tryd.tok Tryd.mixed Tryd.func12 (by kernel_rfl) fun W => ?_
 unfold l_toGrid at h
 refine avb ?_
 cases h;exact eq_by

theorem s_l1In_ok (N : Nat) (v0 : Int) (v1 : Int) (v2 : Int) {r : Bool} (h : s_l1In N v0 v1 v2 = some r) : Pure Tryd.prog 80 [DV.one (D.i v0), DV.one (D.i v1), DV.one (D.i v2)] (DV.one (D.b r)) := by
 refine pure_of_walk Tryd.tok Tryd.mixed Tryd.func80 (by kernel_rfl) fun W => ?_
 unfold s_l1In at h
 refine avb ?_
 refine brb h ?_ ?_<;>intro _ h
 ·cases h;exact eq_by
 ·cases h;exact eq_by

theorem s_IsGrid_ok (N : Nat) (v0 : Gx.Grid) {r : Bool} (h : s_IsGrid N v0 = some r) : Pure Tryd.prog 50 [DV.agg (Gx.Grid.enc v0)] (DV.one (D.b r)) := by
 refine pure_of_walk Tryd.tok Tryd.mixed Tryd.func50 (by kernel_rfl) fun W => ?_
 unfold s_IsGrid at h
 refine avb ?_
 refine plb ?_;refine call_sel (E := fun (x : Bool) => DV.one (D.b x)) h (fun x1 h1 => (s_l1In_ok N v0.mRows 2 6 h1)) (fun x1 hx1 h => ?_)
 refine avb ?_
 refine brb h ?_ ?_<;>intro _ h
 ·cases h;exact eq_by
 ·refine plb ?_;refine call_sel (E := fun (x : Bool) => DV.one (D.b x)) h (fun x2 h1 => (s_l1In_ok N v0.mCols 2 6 h1)) (fun x2 hx2 h => ?_)
  refine avb ?_
  refine brb h ?_ ?_<;>intro _ h
  ·cases h;exact eq_by
  ·refine lns (v0.mCells.length : Int) ?_
   refine avb ?_
   refine br_sel h (fun _ h => ?_) (fun _ h => ?_)
   ·refine avb ?_
    cases h;exact eq_by
   ·refine ab0 ?_
    obtain ⟨zt3, h, gt3⟩ := cutb_some h
    refine W.r_cut (fun (t3 : Unit) => ⟨[], [], 1000⟩) (fun t => .nx t = zt3) ?_ ?_
    ·refine avb ?_
     refine loop_lp (fun (p1 : Int) => ⟨[(1, .ptr 1 0 0), (3, .d (D.i p1))], [(1, some (.box [.d (D.i v0.mRows), .d (D.i v0.mCols), .d (D.s v0.mCells)]))], 1000⟩) h ?_ ?_
     ·exact weak_by
     intro np1 p1 yp1 h hfp1
     unfold s_IsGrid_L1 at h
     refine avb ?_
     refine lns (v0.mCells.length : Int) ?_
     refine avb ?_
     refine brb h ?_ ?_<;>intro _ h
     ·refine chk_sel h (fun q => q) (fun h => ?_)
      refine avb ?_
      refine brb h ?_ ?_<;>intro _ h
      ·refine chk_sel h (fun q => q) (fun h => ?_)
       refine avb ?_
       refine brb h ?_ ?_<;>intro _ h
       ·have h := finr hfp1 h
        have h := cutr gt3 h
        cases h;exact eq_by
       ·exact lbk hfp1 h
      ·exact lbk hfp1 h
     ·have h := finr hfp1 h
      refine cut_at (()) (some_in h) ?_
      exact weak_by
    rintro t3 rfl
    have h : _ = some _ := gt3
    refine avb ?_
    cases h;exact eq_by

theorem s_l8From_ok (N : Nat) (v0 : Gx.Grid) (v1 : Int) (v2 : Bool) {r : Int} (h : s_l8From N v0 v1 v2 = some r) : Pure Tryd.prog 51 [DV.agg (Gx.Grid.enc v0), DV.one (D.i v1), DV.one (D.b v2)] (DV.one (D.i r)) := by
 refine pure_of_walk Tryd.tok Tryd.mixed Tryd.func51 (by kernel_rfl) fun W => ?_
 unfold s_l8From at h
 refine avb ?_
 refine chk_sel h (fun q => q) (fun h => ?_)
 refine ab0 ?_
 refine W.r_seq ?_
 refine ab0 ?_
 obtain ⟨zt1, h, gt1⟩ := bnd_some h
 refine W.r_cut (fun (t1 : Int × Int × Int) => ⟨[(1, .d (D.i v1)), (3, .ptr 1 0 0), (7, .d (D.i t1.1)), (8, .d (D.i t1.2.1)), (9, .d (D.i t1.2.2))], [(1, some (.box [.d (D.i v0.mRows), .d (D.i v0.mCols), .d (D.s v0.mCells)]))], 1000⟩) (fun t => t = zt1) ?_ ?_
 ·refine avb ?_
  refine brb h ?_ ?_<;>intro _ h
  ·refine chk_sel h (fun q => q) (fun h => ?_)
   refine avb ?_
   refine cut_at ((v0.mCols, w64 (Int.tdiv v1 v0.mCols), v0.mRows)) (some_in h) ?_
   exact weak_by
  ·refine cut_at ((1, Int.tmod v1 v0.mCols, v0.mCols)) (some_in h) ?_
   exact weak_by
 rintro t1 rfl
 have h : _ = some _ := gt1
 refine ab0 ?_
 obtain ⟨zt2, h, gt2⟩ := cutb_some h
 refine W.r_cut (fun (t2 : Unit) => ⟨[(1, .d (D.i v1)), (3, .ptr 1 0 0), (7, .d (D.i t1.1)), (8, .d (D.i t1.2.1)), (9, .d (D.i t1.2.2))], [(1, some (.box [.d (D.i v0.mRows), .d (D.i v0.mCols), .d (D.s v0.mCells)]))], 1000⟩) (fun t => .nx t = zt2) ?_ ?_
 ·refine avb ?_
  refine chk_sel h (fun q => q) (fun h => ?_)
  refine avb ?_
  refine brb h ?_ ?_<;>intro _ h
  ·have h := cutr gt2 h
   cases h;exact eq_by
  ·refine brb h ?_ ?_<;>intro _ h
   ·refine chk_sel h (fun q => q) (fun h => ?_)
    refine avb ?_
    refine brb h ?_ ?_<;>intro _ h
    ·have h := cutr gt2 h
     cases h;exact eq_by
    ·refine cut_at (()) (some_in h) ?_
     exact weak_by
   ·refine cut_at (()) (some_in h) ?_
    exact weak_by
 rintro t2 rfl
 have h : _ = some _ := gt2
 refine ab0 ?_
 refine W.r_seq ?_
 refine ab0 ?_
 obtain ⟨zt3, h, gt3⟩ := bnd_some h
 refine W.r_cut (fun (t3 : Int) => ⟨[(10, .d (D.i t3))], [], 1000⟩) (fun t => t = zt3) ?_ ?_
 ·refine avb ?_
  refine loop_lp (fun (p1 : Int) => ⟨[(1, .d (D.i v1)), (3, .ptr 1 0 0), (7, .d (D.i t1.1)), (8, .d (D.i t1.2.1)), (9, .d (D.i t1.2.2)), (10, .d (D.i p1))], [(1, some (.box [.d (D.i v0.mRows), .d (D.i v0.mCols), .d (D.s v0.mCells)]))], 1000⟩) h ?_ ?_
  ·exact weak_by
  intro np1 p1 yp1 h hfp1
  unfold s_l8From_L1 at h
  refine avb ?_
  refine brb h ?_ ?_<;>intro _ h
  ·refine chk_sel h (fun q => q) (fun h => ?_)
   refine avb ?_
   refine brb h ?_ ?_<;>intro _ h
   ·exact lbk hfp1 h
   ·have h := finr hfp1 h
    refine cut_at (p1) (some_in h) ?_
    exact weak_by
  ·have h := finr hfp1 h
   refine cut_at (p1) (some_in h) ?_
   exact weak_by
 rintro t3 rfl
 have h : _ = some _ := gt3
 refine avb ?_
 cases h;exact eq_by

theorem s_SlotsOf_ok (N : Nat) (v0 : Gx.Grid) {r : (List (Gx.Slot))} (h : s_SlotsOf N v0 = some r) : Pure Tryd.prog 23 [DV.agg (Gx.Grid.enc v0)] (DV.one (D.sl 4 (List.map Gx.Slot.enc r))) := by
 refine pure_of_walk Tryd.tok Tryd.mixed Tryd.func23 (by kernel_rfl) fun W => ?_
 unfold s_SlotsOf at h
 refine ab0 ?_
 refine W.r_seq ?_
 refine ab0 ?_
 refine W.r_seq ?_
 refine ab0 ?_
 refine W.r_seq ?_
 refine ab0 ?_
 obtain ⟨zt6, h, gt6⟩ := bnd_some h
 refine W.r_cut (fun (t6 : (List (Gx.Slot))) => ⟨[(3, .sl 1)], [(1, some (.arr 4 (List.map Gx.Slot.enc t6) true))], 1000⟩) (fun t => t = zt6) ?_ ?_
 ·refine avb ?_
  refine loop_lp (fun (p1 : (List (Gx.Slot)) × Int × Int) => ⟨[(1, .ptr 1 0 0), (3, .sl 2), (4, .d (D.i p1.2.1)), (5, .d (D.i p1.2.2))], [(1, some (.box [.d (D.i v0.mRows), .d (D.i v0.mCols), .d (D.s v0.mCells)])), (2, some (.arr 4 (List.map Gx.Slot.enc p1.1) true))], 1000⟩) h ?_ ?_
  ·exact weak_by
  intro np1 p1 yp1 h hfp1
  unfold s_SlotsOf_L1 at h
  refine avb ?_
  refine lns (v0.mCells.length : Int) ?_
  refine avb ?_
  refine brb h ?_ ?_<;>intro _ h
  ·refine plb ?_;refine call_sel (E := fun (x : Bool) => DV.one (D.b x)) h (fun x1 h1 => (s_IsGrid_ok N v0 h1)) (fun x1 hx1 h => ?_)
   refine avb ?_
   refine brb h ?_ ?_<;>intro _ h
   ·refine plb ?_;refine call_sel (E := fun (x : Int) => DV.one (D.i x)) h (fun x2 h1 => (s_l8From_ok N v0 p1.2.2 false h1)) (fun x2 hx2 h => ?_)
    refine avb ?_
    refine plb ?_;refine call_sel (E := fun (x : Int) => DV.one (D.i x)) h (fun x3 h1 => (s_l8From_ok N v0 p1.2.2 true h1)) (fun x3 hx3 h => ?_)
    refine ab0 ?_
    obtain ⟨zt4, h, gt4⟩ := bnd_some h
    refine W.r_cut (fun (t4 : Int) => ⟨[(1, .ptr 1 0 0), (3, .sl 2), (4, .d (D.i t4)), (5, .d (D.i p1.2.2)), (6, .d (D.i x2)), (7, .d (D.i x3))], [(1, some (.box [.d (D.i v0.mRows), .d (D.i v0.mCols), .d (D.s v0.mCells)])), (2, some (.arr 4 (List.map Gx.Slot.enc p1.1) true))], 1000⟩) (fun t => t = zt4) ?_ ?_
    ·refine avb ?_
     refine brb h ?_ ?_<;>intro _ h
     ·refine cut_at (w64 (p1.2.1 + 1)) (some_in h) ?_
      exact weak_by
     ·refine brb h ?_ ?_<;>intro _ h
      ·refine cut_at (w64 (p1.2.1 + 1)) (some_in h) ?_
       exact weak_by
      ·refine cut_at (p1.2.1) (some_in h) ?_
       exact weak_by
    rintro t4 rfl
    have h : _ = some _ := gt4
    refine ab0 ?_
    obtain ⟨zt5, h, gt5⟩ := bnd_some h
    refine W.r_cut (fun (t5 : (List (Gx.Slot))) => ⟨[(1, .ptr 1 0 0), (3, .sl 2), (4, .d (D.i t4)), (5, .d (D.i p1.2.2)), (7, .d (D.i x3))], [(1, some (.box [.d (D.i v0.mRows), .d (D.i v0.mCols), .d (D.s v0.mCells)])), (2, some (.arr 4 (List.map Gx.Slot.enc t5) true))], 1000⟩) (fun t => t = zt5) ?_ ?_
    ·refine avb ?_
     refine brb h ?_ ?_<;>intro _ h
     ·refine app_sel h (app_ok (by (first|rfl|simp [sub])) (by (first|rfl|simp [sub])) (by decide)) (by (intro h; cases h)) (fun h => ?_)
      refine avb ?_
      refine cut_at (p1.1 ++ ([(⟨t4, false, p1.2.2, x2⟩ : Gx.Slot)])) (some_in h) ?_
      exact weak_by
     ·refine cut_at (p1.1) (some_in h) ?_
      exact weak_by
    rintro t5 rfl
    have h : _ = some _ := gt5
    refine avb ?_
    refine brb h ?_ ?_<;>intro _ h
    ·refine app_sel h (app_ok (by (first|rfl|simp [sub])) (by (first|rfl|simp [sub])) (by decide)) (by (intro h; cases h)) (fun h => ?_)
     refine avb ?_
     exact lbk hfp1 h
    ·exact lbk hfp1 h
   ·have h := finr hfp1 h
    refine cut_at (p1.1) (some_in h) ?_
    exact weak_by
  ·have h := finr hfp1 h
   refine cut_at (p1.1) (some_in h) ?_
   exact weak_by
 rintro t6 rfl
 have h : _ = some _ := gt6
 refine avb ?_
 cases h;exact eq_by

theorem s_FormatInt_ok (N : Nat) (v0 : Int) {r : (List UInt8)} (h : s_FormatInt N v0 = some r) : Pure Tryd.prog 19 [DV.one (D.i v0)] (DV.one (D.s r)) := by
 refine pure_of_walk Tryd.tok Tryd.mixed Tryd.func19 (by kernel_rfl) fun W => ?_
 unfold s_FormatInt at h
 refine avb ?_
 refine br_sel h (fun _ h => ?_) (fun _ h => ?_)
 ·refine avb ?_
  cases h;exact eq_by
 ·refine ab0 ?_
  refine W.r_seq ?_
  refine ab0 ?_
  obtain ⟨zt2, h, gt2⟩ := bnd_some h
  refine W.r_cut (fun (t2 : (List UInt8)) => ⟨[(0, .d (D.i v0)), (3, .d (D.s t2))], [], 1000⟩) (fun t => t = zt2) ?_ ?_
  ·refine avb ?_
   refine loop_lp (fun (p1 : (List UInt8) × Int) => ⟨[(0, .d (D.i v0)), (3, .d (D.s p1.1)), (4, .d (D.i p1.2))], [], 1000⟩) h ?_ ?_
   ·exact weak_by
   intro np1 p1 yp1 h hfp1
   unfold s_FormatInt_L1 at h
   refine avb ?_
   refine brb h ?_ ?_<;>intro _ h
   ·refine chk_sel h (fun q => q) (fun h => ?_)
    refine ab0 ?_
    obtain ⟨zt1, h, gt1⟩ := bnd_some h
    refine W.r_cut (fun (t1 : Int) => ⟨[(0, .d (D.i v0)), (3, .d (D.s p1.1)), (4, .d (D.i p1.2)), (5, .d (D.i t1))], [], 1000⟩) (fun t => t = zt1) ?_ ?_
    ·refine avb ?_
     refine brb h ?_ ?_<;>intro _ h
     ·refine cut_at (w64 (0 - (Int.tmod p1.2 10))) (some_in h) ?_
      exact weak_by
     ·refine cut_at (Int.tmod p1.2 10) (some_in h) ?_
      exact weak_by
    rintro t1 rfl
    have h : _ = some _ := gt1
    refine avb ?_
    refine ⟨[UInt8.ofInt (IntKind.u8.wrap (w64 (48 + t1)))], (by (exact eq_by)), ?_⟩
    refine avb ?_
    refine chk_sel h (fun q => Nat.le_trans q (by decide)) (fun h => ?_)
    refine avb ?_
    refine chk_sel h (fun q => q) (fun h => ?_)
    refine avb ?_
    exact lbk hfp1 h
   ·have h := finr hfp1 h
    refine cut_at (p1.1) (some_in h) ?_
    exact weak_by
  rintro t2 rfl
  have h : _ = some _ := gt2
  refine avb ?_
  refine brb h ?_ ?_<;>intro _ h
  ·refine chk_sel h (fun q => Nat.le_trans q (by decide)) (fun h => ?_)
   refine avb ?_
   cases h;exact eq_by
  ·cases h;exact eq_by

theorem s_SlotName_ok (N : Nat) (v0 : Gx.Slot) {r : (List UInt8)} (h : s_SlotName N v0 = some r) : Pure Tryd.prog 24 [DV.agg (Gx.Slot.enc v0)] (DV.one (D.s r)) := by
 refine pure_of_walk Tryd.tok Tryd.mixed Tryd.func24 (by kernel_rfl) fun W => ?_
 unfold s_SlotName at h
 refine avb ?_
 refine brb h ?_ ?_<;>intro _ h
 ·refine plb ?_;refine call_sel (E := fun (x : (List UInt8)) => DV.one (D.s x)) h (fun x1 h1 => (s_FormatInt_ok N v0.mNumber h1)) (fun x1 hx1 h => ?_)
  refine avb ?_
  refine chk_sel h (fun q => Nat.le_trans q (by decide)) (fun h => ?_)
  refine avb ?_
  cases h;exact eq_by
 ·refine plb ?_;refine call_sel (E := fun (x : (List UInt8)) => DV.one (D.s x)) h (fun x2 h1 => (s_FormatInt_ok N v0.mNumber h1)) (fun x2 hx2 h => ?_)
  refine avb ?_
  refine chk_sel h (fun q => Nat.le_trans q (by decide)) (fun h => ?_)
  refine avb ?_
  cases h;exact eq_by

theorem s_l39Join_ok (N : Nat) (v0 : List (List UInt8)) (v1 : List UInt8) {r : (List UInt8)} (h : s_l39Join N v0 v1 = some r) : Pure Tryd.prog 20 [DV.one (D.sl 1 (List.map Gx.encS v0)), DV.one (D.s v1)] (DV.one (D.s r)) := by
 refine pure_of_walk Tryd.tok Tryd.mixed Tryd.func20 (by kernel_rfl) fun W => ?_
 unfold s_l39Join at h
 refine ab0 ?_
 refine W.r_seq ?_
 refine ab0 ?_
 refine W.r_seq ?_
 refine ab0 ?_
 obtain ⟨zt3, h, gt3⟩ := bnd_some h
 refine W.r_cut (fun (t3 : (List UInt8)) => ⟨[(0, .d (D.sl 1 (List.map Gx.encS v0))), (5, .d (D.s t3))], [], 1000⟩) (fun t => t = zt3) ?_ ?_
 ·refine avb ?_
  refine loop_lp (fun (p1 : (List UInt8) × Int) => ⟨[(0, .d (D.sl 1 (List.map Gx.encS v0))), (1, .d (D.s v1)), (5, .d (D.s p1.1)), (6, .d (D.i p1.2))], [], 1000⟩) h ?_ ?_
  ·exact weak_by
  intro np1 p1 yp1 h hfp1
  unfold s_l39Join_L1 at h
  refine avb ?_
  refine lns (v0.length : Int) ?_
  refine avb ?_
  refine br_sel h (fun _ h => ?_) (fun _ h => ?_)
  ·refine ab0 ?_
   refine W.r_seq ?_
   refine ab0 ?_
   obtain ⟨zt1, h, gt1⟩ := bnd_some h
   refine W.r_cut (fun (t1 : (List UInt8)) => ⟨[(0, .d (D.sl 1 (List.map Gx.encS v0))), (1, .d (D.s v1)), (5, .d (D.s t1)), (6, .d (D.i p1.2))], [], 1000⟩) (fun t => t = zt1) ?_ ?_
   ·refine avb ?_
    refine brb h ?_ ?_<;>intro _ h
    ·refine chk_sel h (fun q => Nat.le_trans q (by decide)) (fun h => ?_)
     refine avb ?_
     refine cut_at (p1.1 ++ v1) (some_in h) ?_
     exact weak_by
    ·refine cut_at (p1.1) (some_in h) ?_
     exact weak_by
   rintro t1 rfl
   have h : _ = some _ := gt1
   refine avb ?_
   refine idx_sel h (fun x2 hx2 h => ?_)
   refine avb ?_
   refine chk_sel h (fun q => Nat.le_trans q (by decide)) (fun h => ?_)
   refine avb ?_
   exact lbk hfp1 h
  ·refine avb ?_
   have h := finr hfp1 h
   refine cut_at (p1.1) (some_in h) ?_
   exact weak_by
 rintro t3 rfl
 have h : _ = some _ := gt3
 refine avb ?_
 refine lns (v0.length : Int) ?_
 refine avb ?_
 refine brb h ?_ ?_<;>intro _ h
 ·cases h;exact eq_by
 ·cases h;exact eq_by

theorem s_FormatSlots_ok (N : Nat) (v0 : Gx.Grid) {r : (List UInt8)} (h : s_FormatSlots N v0 = some r) : Pure Tryd.prog 11 [DV.agg (Gx.Grid.enc v0)] (DV.one (D.s r)) := by
 refine pure_of_walk Tryd.tok Tryd.mixed Tryd.func11 (by kernel_rfl) fun W => ?_
 unfold s_FormatSlots at h
 refine avb ?_
 refine plb ?_;refine call_sel (E := fun (x : (List (Gx.Slot))) => DV.one (D.sl 4 (List.map Gx.Slot.enc x))) h (fun x1 h1 => (s_SlotsOf_ok N v0 h1)) (fun x1 hx1 h => ?_)
 refine ab0 ?_
 obtain ⟨zt6, h, gt6⟩ := bnd_some h
 refine W.r_cut (fun (t6 : (List (List UInt8))) => ⟨[(3, .sl 1)], [(1, some (.arr 1 (List.map Gx.encS t6) true))], 1000⟩) (fun t => t = zt6) ?_ ?_
 ·refine avb ?_
  refine loop_lp (fun (p1 : (List (List UInt8)) × Int) => ⟨[(3, .sl 1), (4, .sl 2), (5, .d (D.i p1.2))], [(1, some (.arr 1 (List.map Gx.encS p1.1) true)), (2, some (.arr 4 (List.map Gx.Slot.enc x1) true))], 1000⟩) h ?_ ?_
  ·exact weak_by
  intro np1 p1 yp1 h hfp1
  unfold s_FormatSlots_L1 at h
  refine avb ?_
  refine lns (x1.length : Int) ?_
  refine avb ?_
  refine brb h ?_ ?_<;>intro _ h
  ·refine idxp_sel h (fun x2 hx2 h => ?_)
   refine avb ?_
   refine ldp_sel hx2 ?_
   refine avb ?_
   refine plb ?_;refine call_sel (E := fun (x : (List UInt8)) => DV.one (D.s x)) h (fun x3 h1 => (s_SlotName_ok N x2 h1)) (fun x3 hx3 h => ?_)
   refine avb ?_
   refine chk_sel h (fun q => Nat.le_trans q (by decide)) (fun h => ?_)
   refine avb ?_
   refine idxp_sel h (fun x4 hx4 h => ?_)
   refine avb ?_
   refine ldp_sel hx4 ?_
   refine avb ?_
   refine plb ?_;refine call_sel (E := fun (x : (List UInt8)) => DV.one (D.s x)) h (fun x5 h1 => (s_FormatInt_ok N x4.mLength h1)) (fun x5 hx5 h => ?_)
   refine avb ?_
   refine chk_sel h (fun q => Nat.le_trans q (by decide)) (fun h => ?_)
   refine avb ?_
   refine app_sel h (app_ok (by (first|rfl|simp [sub])) (by (first|rfl|simp [sub])) (by decide)) (by (intro h; cases h)) (fun h => ?_)
   refine avb ?_
   exact lbk hfp1 h
  ·have h := finr hfp1 h
   refine cut_at (p1.1) (some_in h) ?_
   exact weak_by
 rintro t6 rfl
 have h : _ = some _ := gt6
 refine avb ?_
 refine plb ?_;refine call_sel (E := fun (x : (List UInt8)) => DV.one (D.s x)) h (fun x7 h1 => (s_l39Join_ok N t6 ([32] : List UInt8) h1)) (fun x7 hx7 h => ?_)
 refine avb ?_
 cases h;exact eq_by

theorem i_InRange_ok (N : Nat) (v0 : Int) (v1 : Int) (v2 : Int) {r : Bool} (h : i_InRange N v0 v1 v2 = some r) : Pure Tryd.prog 81 [DV.one (D.i v0), DV.one (D.i v1), DV.one (D.i v2)] (DV.one (D.b r)) := by
 refine pure_of_walk Tryd.tok Tryd.mixed Tryd.func81 (by kernel_rfl) fun W => ?_
 unfold i_InRange at h
 refine avb ?_
 refine brb h ?_ ?_<;>intro _ h
 ·cases h;exact eq_by
 ·cases h;exact eq_by

theorem i_IsGrid_ok (N : Nat) (v0 : Gx.Grid) {r : Bool} (h : i_IsGrid N v0 = some r) : Pure Tryd.prog 52 [DV.agg (Gx.Grid.enc v0)] (DV.one (D.b r)) := by
 refine pure_of_walk Tryd.tok Tryd.mixed Tryd.func52 (by kernel_rfl) fun W => ?_
 unfold i_IsGrid at h
 refine avb ?_
 refine plb ?_;refine call_sel (E := fun (x : Bool) => DV.one (D.b x)) h (fun x1 h1 => (i_InRange_ok N v0.mRows 2 6 h1)) (fun x1 hx1 h => ?_)
 refine avb ?_
 refine brb h ?_ ?_<;>intro _ h
 ·cases h;exact eq_by
 ·refine plb ?_;refine call_sel (E := fun (x : Bool) => DV.one (D.b x)) h (fun x2 h1 => (i_InRange_ok N v0.mCols 2 6 h1)) (fun x2 hx2 h => ?_)
  refine avb ?_
  refine brb h ?_ ?_<;>intro _ h
  ·cases h;exact eq_by
  ·refine lns (v0.mCells.length : Int) ?_
   refine avb ?_
   refine br_sel h (fun _ h => ?_) (fun _ h => ?_)
   ·refine avb ?_
    cases h;exact eq_by
   ·refine ab0 ?_
    obtain ⟨zt3, h, gt3⟩ := cutb_some h
    refine W.r_cut (fun (t3 : Unit) => ⟨[], [], 1000⟩) (fun t => .nx t = zt3) ?_ ?_
    ·refine avb ?_
     refine lns (v0.mCells.length : Int) ?_
     refine avb ?_
     refine loop_lp (fun (p1 : Int) => ⟨[(1, .ptr 1 0 0), (27, .d (D.i (v0.mCells.length : Int))), (28, .d (D.i p1))], [(1, some (.box [.d (D.i v0.mRows), .d (D.i v0.mCols), .d (D.s v0.mCells)]))], 1000⟩) h ?_ ?_
     ·exact weak_by
     intro np1 p1 yp1 h hfp1
     unfold i_IsGrid_L1 at h
     refine avb ?_
     refine brb h ?_ ?_<;>intro _ h
     ·refine chk_sel h (fun q => q) (fun h => ?_)
      refine avb ?_
      refine brb h ?_ ?_<;>intro _ h
      ·refine chk_sel h (fun q => q) (fun h => ?_)
       refine avb ?_
       refine brb h ?_ ?_<;>intro _ h
       ·have h := finr hfp1 h
        have h := cutr gt3 h
        cases h;exact eq_by
       ·exact lbk hfp1 h
      ·exact lbk hfp1 h
     ·have h := finr hfp1 h
      refine cut_at (()) (some_in h) ?_
      exact weak_by
    rintro t3 rfl
    have h : _ = some _ := gt3
    refine avb ?_
    cases h;exact eq_by

theorem i_run_ok (N : Nat) (v0 : Gx.Grid) (v1 : Int) (v2 : Bool) {r : Int} (h : i_run N v0 v1 v2 = some r) : Pure Tryd.prog 53 [DV.agg (Gx.Grid.enc v0), DV.one (D.i v1), DV.one (D.b v2)] (DV.one (D.i r)) := by
 refine pure_of_walk Tryd.tok Tryd.mixed Tryd.func53 (by kernel_rfl) fun W => ?_
 unfold i_run at h
 refine avb ?_
 refine chk_sel h (fun q => q) (fun h => ?_)
 refine ab0 ?_
 obtain ⟨zt1, h, gt1⟩ := bnd_some h
 refine W.r_cut (fun (t1 : Int × Int × Int) => ⟨[(1, .d (D.i v1)), (3, .ptr 1 0 0), (7, .d (D.i t1.1)), (8, .d (D.i t1.2.1)), (9, .d (D.i t1.2.2))], [(1, some (.box [.d (D.i v0.mRows), .d (D.i v0.mCols), .d (D.s v0.mCells)]))], 1000⟩) (fun t => t = zt1) ?_ ?_
 ·refine avb ?_
  refine brb h ?_ ?_<;>intro _ h
  ·refine chk_sel h (fun q => q) (fun h => ?_)
   refine avb ?_
   refine cut_at ((v0.mCols, w64 (Int.tdiv v1 v0.mCols), v0.mRows)) (some_in h) ?_
   exact weak_by
  ·refine cut_at ((1, Int.tmod v1 v0.mCols, v0.mCols)) (some_in h) ?_
   exact weak_by
 rintro t1 rfl
 have h : _ = some _ := gt1
 refine ab0 ?_
 obtain ⟨zt2, h, gt2⟩ := cutb_some h
 refine W.r_cut (fun (t2 : Unit) => ⟨[(1, .d (D.i v1)), (3, .ptr 1 0 0), (7, .d (D.i t1.1)), (8, .d (D.i t1.2.1)), (9, .d (D.i t1.2.2))], [(1, some (.box [.d (D.i v0.mRows), .d (D.i v0.mCols), .d (D.s v0.mCells)]))], 1000⟩) (fun t => .nx t = zt2) ?_ ?_
 ·refine avb ?_
  refine chk_sel h (fun q => q) (fun h => ?_)
  refine avb ?_
  refine brb h ?_ ?_<;>intro _ h
  ·have h := cutr gt2 h
   cases h;exact eq_by
  ·refine brb h ?_ ?_<;>intro _ h
   ·refine chk_sel h (fun q => q) (fun h => ?_)
    refine avb ?_
    refine brb h ?_ ?_<;>intro _ h
    ·have h := cutr gt2 h
     cases h;exact eq_by
    ·refine cut_at (()) (some_in h) ?_
     exact weak_by
   ·refine cut_at (()) (some_in h) ?_
    exact weak_by
 rintro t2 rfl
 have h : _ = some _ := gt2
 refine ab0 ?_
 refine W.r_seq ?_
 refine ab0 ?_
 obtain ⟨zt3, h, gt3⟩ := bnd_some h
 refine W.r_cut (fun (t3 : Int) => ⟨[(10, .d (D.i t3))], [], 1000⟩) (fun t => t = zt3) ?_ ?_
 ·refine avb ?_
  refine loop_lp (fun (p1 : Int) => ⟨[(1, .d (D.i v1)), (3, .ptr 1 0 0), (7, .d (D.i t1.1)), (8, .d (D.i t1.2.1)), (9, .d (D.i t1.2.2)), (10, .d (D.i p1))], [(1, some (.box [.d (D.i v0.mRows), .d (D.i v0.mCols), .d (D.s v0.mCells)]))], 1000⟩) h ?_ ?_
  ·exact weak_by
  intro np1 p1 yp1 h hfp1
  unfold i_run_L1 at h
  refine avb ?_
  refine brb h ?_ ?_<;>intro _ h
  ·refine chk_sel h (fun q => q) (fun h => ?_)
   refine avb ?_
   refine brb h ?_ ?_<;>intro _ h
   ·exact lbk hfp1 h
   ·have h := finr hfp1 h
    refine cut_at (p1) (some_in h) ?_
    exact weak_by
  ·have h := finr hfp1 h
   refine cut_at (p1) (some_in h) ?_
   exact weak_by
 rintro t3 rfl
 have h : _ = some _ := gt3
 refine avb ?_
 cases h;exact eq_by

theorem i_SlotsOf_ok (N : Nat) (v0 : Gx.Grid) {r : (List (Gx.Slot))} (h : i_SlotsOf N v0 = some r) : Pure Tryd.prog 25 [DV.agg (Gx.Grid.enc v0)] (DV.one (D.sl 4 (List.map Gx.Slot.enc r))) := by
 refine pure_of_walk Tryd.tok Tryd.mixed Tryd.func25 (by kernel_rfl) fun W => ?_
 unfold i_SlotsOf at h
 refine avb ?_
 refine plb ?_;refine call_sel (E := fun (x : Bool) => DV.one (D.b x)) h (fun x1 h1 => (i_IsGrid_ok N v0 h1)) (fun x1 hx1 h => ?_)
 refine avb ?_
 refine br_sel h (fun _ h => ?_) (fun _ h => ?_)
 ·refine avb ?_
  cases h;exact eq_by
 ·refine ab0 ?_
  refine W.r_seq ?_
  refine ab0 ?_
  refine W.r_seq ?_
  refine ab0 ?_
  obtain ⟨zt6, h, gt6⟩ := bnd_some h
  refine W.r_cut (fun (t6 : (List (Gx.Slot))) => ⟨[(3, .sl 1)], [(1, some (.arr 4 (List.map Gx.Slot.enc t6) true))], 1000⟩) (fun t => t = zt6) ?_ ?_
  ·refine avb ?_
   refine lns (v0.mCells.length : Int) ?_
   refine avb ?_
   refine loop_lp (fun (p1 : (List (Gx.Slot)) × Int × Int) => ⟨[(1, .ptr 1 0 0), (3, .sl 2), (4, .d (D.i p1.2.1)), (13, .d (D.i (v0.mCells.length : Int))), (14, .d (D.i p1.2.2))], [(1, some (.box [.d (D.i v0.mRows), .d (D.i v0.mCols), .d (D.s v0.mCells)])), (2, some (.arr 4 (List.map Gx.Slot.enc p1.1) true))], 1000⟩) h ?_ ?_
   ·exact weak_by
   intro np1 p1 yp1 h hfp1
   unfold i_SlotsOf_L1 at h
   refine avb ?_
   refine brb h ?_ ?_<;>intro _ h
   ·refine plb ?_;refine call_sel (E := fun (x : Int) => DV.one (D.i x)) h (fun x2 h1 => (i_run_ok N v0 p1.2.2 false h1)) (fun x2 hx2 h => ?_)
    refine avb ?_
    refine plb ?_;refine call_sel (E := fun (x : Int) => DV.one (D.i x)) h (fun x3 h1 => (i_run_ok N v0 p1.2.2 true h1)) (fun x3 hx3 h => ?_)
    refine ab0 ?_
    obtain ⟨zt4, h, gt4⟩ := bnd_some h
    refine W.r_cut (fun (t4 : Int) => ⟨[(1, .ptr 1 0 0), (3, .sl 2), (4, .d (D.i t4)), (5, .d (D.i p1.2.2)), (6, .d (D.i x2)), (7, .d (D.i x3)), (13, .d (D.i (v0.mCells.length : Int))), (14, .d (D.i p1.2.2))], [(1, some (.box [.d (D.i v0.mRows), .d (D.i v0.mCols), .d (D.s v0.mCells)])), (2, some (.arr 4 (List.map Gx.Slot.enc p1.1) true))], 1000⟩) (fun t => t = zt4) ?_ ?_
    ·refine avb ?_
     refine brb h ?_ ?_<;>intro _ h
     ·refine cut_at (w64 (p1.2.1 + 1)) (some_in h) ?_
      exact weak_by
     ·refine brb h ?_ ?_<;>intro _ h
      ·refine cut_at (w64 (p1.2.1 + 1)) (some_in h) ?_
       exact weak_by
      ·refine cut_at (p1.2.1) (some_in h) ?_
       exact weak_by
    rintro t4 rfl
    have h : _ = some _ := gt4
    refine ab0 ?_
    obtain ⟨zt5, h, gt5⟩ := bnd_some h
    refine W.r_cut (fun (t5 : (List (Gx.Slot))) => ⟨[(1, .ptr 1 0 0), (3, .sl 2), (4, .d (D.i t4)), (5, .d (D.i p1.2.2)), (7, .d (D.i x3)), (13, .d (D.i (v0.mCells.length : Int))), (14, .d (D.i p1.2.2))], [(1, some (.box [.d (D.i v0.mRows), .d (D.i v0.mCols), .d (D.s v0.mCells)])), (2, some (.arr 4 (List.map Gx.Slot.enc t5) true))], 1000⟩) (fun t => t = zt5) ?_ ?_
    ·refine avb ?_
     refine brb h ?_ ?_<;>intro _ h
     ·refine app_sel h (app_ok (by (first|rfl|simp [sub])) (by (first|rfl|simp [sub])) (by decide)) (by (intro h; cases h)) (fun h => ?_)
      refine avb ?_
      refine cut_at (p1.1 ++ ([(⟨t4, false, p1.2.2, x2⟩ : Gx.Slot)])) (some_in h) ?_
      exact weak_by
     ·refine cut_at (p1.1) (some_in h) ?_
      exact weak_by
    rintro t5 rfl
    have h : _ = some _ := gt5
    refine avb ?_
    refine brb h ?_ ?_<;>intro _ h
    ·refine app_sel h (app_ok (by (first|rfl|simp [sub])) (by (first|rfl|simp [sub])) (by decide)) (by (intro h; cases h)) (fun h => ?_)
     refine avb ?_
     exact lbk hfp1 h
    ·exact lbk hfp1 h
   ·have h := finr hfp1 h
    refine cut_at (p1.1) (some_in h) ?_
    exact weak_by
  rintro t6 rfl
  have h : _ = some _ := gt6
  refine avb ?_
  cases h;exact eq_by

theorem i_FormatInt_ok (N : Nat) (v0 : Int) {r : (List UInt8)} (h : i_FormatInt N v0 = some r) : Pure Tryd.prog 21 [DV.one (D.i v0)] (DV.one (D.s r)) := by
 refine pure_of_walk Tryd.tok Tryd.mixed Tryd.func21 (by kernel_rfl) fun W => ?_
 unfold i_FormatInt at h
 refine avb ?_
 refine plb ?_;refine call_sel (E := fun (x : (List UInt8)) => DV.one (D.s x)) h (fun x1 h1 => (g_strconv_Itoa_ok N v0 h1)) (fun x1 hx1 h => ?_)
 refine avb ?_
 cases h;exact eq_by

theorem i_SlotName_ok (N : Nat) (v0 : Gx.Slot) {r : (List UInt8)} (h : i_SlotName N v0 = some r) : Pure Tryd.prog 26 [DV.agg (Gx.Slot.enc v0)] (DV.one (D.s r)) := by
 refine pure_of_walk Tryd.tok Tryd.mixed Tryd.func26 (by kernel_rfl) fun W => ?_
 unfold i_SlotName at h
 refine avb ?_
 refine brb h ?_ ?_<;>intro _ h
 ·refine plb ?_;refine call_sel (E := fun (x : (List UInt8)) => DV.one (D.s x)) h (fun x1 h1 => (i_FormatInt_ok N v0.mNumber h1)) (fun x1 hx1 h => ?_)
  refine avb ?_
  refine chk_sel h (fun q => Nat.le_trans q (by decide)) (fun h => ?_)
  refine avb ?_
  cases h;exact eq_by
 ·refine plb ?_;refine call_sel (E := fun (x : (List UInt8)) => DV.one (D.s x)) h (fun x2 h1 => (i_FormatInt_ok N v0.mNumber h1)) (fun x2 hx2 h => ?_)
  refine avb ?_
  refine chk_sel h (fun q => Nat.le_trans q (by decide)) (fun h => ?_)
  refine avb ?_
  cases h;exact eq_by

theorem i_orDash_ok (N : Nat) (v0 : List (List UInt8)) (v1 : List UInt8) {r : (List UInt8)} (h : i_orDash N v0 v1 = some r) : Pure Tryd.prog 22 [DV.one (D.sl 1 (List.map Gx.encS v0)), DV.one (D.s v1)] (DV.one (D.s r)) := by
 refine pure_of_walk Tryd.tok Tryd.mixed Tryd.func22 (by kernel_rfl) fun W => ?_
 unfold i_orDash at h
 refine avb ?_
 refine lns (v0.length : Int) ?_
 refine avb ?_
 refine brb h ?_ ?_<;>intro _ h
 ·cases h;exact eq_by
 ·refine plb ?_;refine call_sel (E := fun (x : (List UInt8)) => DV.one (D.s x)) h (fun x1 h1 => (g_strings_Join_ok N v0 v1 h1)) (fun x1 hx1 h => ?_)
  refine avb ?_
  cases h;exact eq_by

theorem i_FormatSlots_ok (N : Nat) (v0 : Gx.Grid) {r : (List UInt8)} (h : i_FormatSlots N v0 = some r) : Pure Tryd.prog 13 [DV.agg (Gx.Grid.enc v0)] (DV.one (D.s r)) := by
 refine pure_of_walk Tryd.tok Tryd.mixed Tryd.func13 (by kernel_rfl) fun W => ?_
 unfold i_FormatSlots at h
 refine ab0 ?_
 refine W.r_seq ?_
 refine ab0 ?_
 refine W.r_seq ?_
 refine ab0 ?_
 obtain ⟨zt5, h, gt5⟩ := bnd_some h
 refine W.r_cut (fun (t5 : (List (List UInt8))) => ⟨[(3, .sl 1)], [(1, some (.arr 1 (List.map Gx.encS t5) true))], 1000⟩) (fun t => t = zt5) ?_ ?_
 ·refine avb ?_
  refine plb ?_;refine call_sel (E := fun (x : (List (Gx.Slot))) => DV.one (D.sl 4 (List.map Gx.Slot.enc x))) h (fun x1 h1 => (i_SlotsOf_ok N v0 h1)) (fun x1 hx1 h => ?_)
  refine avb ?_
  refine lns (x1.length : Int) ?_
  refine avb ?_
  refine loop_lp (fun (p1 : (List (List UInt8)) × Int) => ⟨[(3, .sl 1), (7, .sl 2), (8, .d (D.i (x1.length : Int))), (9, .d (D.i p1.2))], [(1, some (.arr 1 (List.map Gx.encS p1.1) true)), (2, some (.arr 4 (List.map Gx.Slot.enc x1) true))], 1000⟩) h ?_ ?_
  ·exact weak_by
  intro np1 p1 yp1 h hfp1
  unfold i_FormatSlots_L1 at h
  refine avb ?_
  refine brb h ?_ ?_<;>intro _ h
  ·refine idxp_sel h (fun x2 hx2 h => ?_)
   refine avb ?_
   refine ldp_sel hx2 ?_
   refine avb ?_
   refine plb ?_;refine call_sel (E := fun (x : (List UInt8)) => DV.one (D.s x)) h (fun x3 h1 => (i_SlotName_ok N x2 h1)) (fun x3 hx3 h => ?_)
   refine avb ?_
   refine chk_sel h (fun q => Nat.le_trans q (by decide)) (fun h => ?_)
   refine avb ?_
   refine plb ?_;refine call_sel (E := fun (x : (List UInt8)) => DV.one (D.s x)) h (fun x4 h1 => (i_FormatInt_ok N x2.mLength h1)) (fun x4 hx4 h => ?_)
   refine avb ?_
   refine chk_sel h (fun q => Nat.le_trans q (by decide)) (fun h => ?_)
   refine avb ?_
   refine app_sel h (app_ok (by (first|rfl|simp [sub])) (by (first|rfl|simp [sub])) (by decide)) (by (intro h; cases h)) (fun h => ?_)
   refine avb ?_
   exact lbk hfp1 h
  ·have h := finr hfp1 h
   refine cut_at (p1.1) (some_in h) ?_
   exact weak_by
 rintro t5 rfl
 have h : _ = some _ := gt5
 refine avb ?_
 refine plb ?_;refine call_sel (E := fun (x : (List UInt8)) => DV.one (D.s x)) h (fun x6 h1 => (i_orDash_ok N t5 ([32] : List UInt8) h1)) (fun x6 hx6 h => ?_)
 refine avb ?_
 cases h;exact eq_by

theorem l_FnExactFormatSlots_ok (N : Nat) (v0 : Gx.Grid) {r : Bool} (h : l_FnExactFormatSlots N v0 = some r) : Pure Tryd.prog 4 [DV.agg (Gx.Grid.enc v0)] (DV.one (D.b r)) := by
 refine pure_of_walk Tryd.tok Tryd.mixed Tryd.func4 (by kernel_rfl) fun W => ?_
 unfold l_FnExactFormatSlots at h
 refine avb ?_
 refine plb ?_;refine call_sel (E := fun (x : Int) => DV.one (D.i x)) h (fun x1 h1 => (l_szGrid_ok N v0 1048576 h1)) (fun x1 hx1 h => ?_)
 refine avb ?_
 refine brb h ?_ ?_<;>intro _ h
 ·cases h;exact eq_by
 ·refine plb ?_;refine call_sel (E := fun (x : Gx.Grid) => DV.agg (Gx.Grid.enc x)) h (fun x2 h1 => (l_toGrid_ok N v0 h1)) (fun x2 hx2 h => ?_)
  refine avb ?_
  refine plb ?_;refine call_sel (E := fun (x : (List UInt8)) => DV.one (D.s x)) h (fun x3 h1 => (s_FormatSlots_ok N x2 h1)) (fun x3 hx3 h => ?_)
  refine avb ?_
  refine plb ?_;refine call_sel (E := fun (x : Gx.Grid) => DV.agg (Gx.Grid.enc x)) h (fun x4 h1 => (l_toGrid_ok N v0 h1)) (fun x4 hx4 h => ?_)
  refine avb ?_
  refine plb ?_;refine call_sel (E := fun (x : (List UInt8)) => DV.one (D.s x)) h (fun x5 h1 => (i_FormatSlots_ok N x4 h1)) (fun x5 hx5 h => ?_)
  refine avb ?_
  refine brb h ?_ ?_<;>intro _ h
  ·cases h;exact eq_by
  ·cases h;exact eq_by
end Lw
end Go.Proofs
