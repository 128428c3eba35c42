/- PRINTED BY gen.py (mine): their contracts. -/
import Derived.Test.YtppbkdpofmplaaaGreatAvPfIsHouse0
namespace Go.Proofs
open Go Go.Av
set_option maxRecDepth 100000
set_option maxHeartbeats 4000000
set_option linter.unusedVariables false
set_option linter.unusedSimpArgs false
namespace Lw
theorem s_l10Alone_ok (N : Nat) (v0 : Gx.Grid) {r : Bool} (h : s_l10Alone N v0 = some r) : Pure Tryz.prog 168 [DV.agg (Gx.Grid.enc v0)] (DV.one (D.b r)) := by
 refine pure_of_walk Tryz.tok Tryz.mixed Tryz.func168 (by kernel_rfl) fun W => ?_
 unfold s_l10Alone at h
 refine avb ?_
 refine plb ?_;refine call_sel (E := fun (x : (List (Gx.Slot))) => DV.one (D.sl 4 (List.map Gx.Slot.enc x))) h (fun x1 h1 => (s_SlotsOf_ok N v0 h1)) (fun x1 hx1 h => ?_)
 refine ab0 ?_
 obtain ⟨zt4, h, gt4⟩ := cutb_some h
 refine W.r_cut (fun (t4 : Unit) => ⟨[(1, .ptr 1 0 0)], [(1, some (.box [.d (D.i v0.mRows), .d (D.i v0.mCols), .d (D.s v0.mCells)]))], 1000⟩) (fun t => .nx t = zt4) ?_ ?_
 ·refine avb ?_
  refine loop_lp (fun (p1 : Int) => ⟨[(1, .ptr 1 0 0), (3, .sl 2), (4, .d (D.i p1))], [(1, some (.box [.d (D.i v0.mRows), .d (D.i v0.mCols), .d (D.s v0.mCells)])), (2, some (.arr 4 (List.map Gx.Slot.enc x1) true))], 1000⟩) h ?_ ?_
  ·exact weak_by
  intro np1 p1 yp1 h hfp1
  unfold s_l10Alone_L1 at h
  refine avb ?_
  refine lns (x1.length : Int) ?_
  refine avb ?_
  refine brb h ?_ ?_<;>intro _ h
  ·refine plb ?_;refine call_sel (E := fun (x : Int) => DV.one (D.i x)) h (fun x2 h1 => (s_UncheckedIn_ok N v0 p1 h1)) (fun x2 hx2 h => ?_)
   refine avb ?_
   refine idxp_sel h (fun x3 hx3 h => ?_)
   refine avb ?_
   refine ldp_sel hx3 ?_
   refine avb ?_
   refine brb h ?_ ?_<;>intro _ h
   ·have h := finr hfp1 h
    have h := cutr gt4 h
    cases h;exact eq_by
   ·exact lbk hfp1 h
  ·have h := finr hfp1 h
   refine cut_at (()) (some_in h) ?_
   exact weak_by
 rintro t4 rfl
 have h : _ = some _ := gt4
 refine ab0 ?_
 obtain ⟨zt7, h, gt7⟩ := cutb_some h
 refine W.r_cut (fun (t7 : Unit) => ⟨[], [], 1000⟩) (fun t => .nx t = zt7) ?_ ?_
 ·refine avb ?_
  refine loop_lp (fun (p2 : Int) => ⟨[(1, .ptr 1 0 0), (5, .d (D.i p2))], [(1, some (.box [.d (D.i v0.mRows), .d (D.i v0.mCols), .d (D.s v0.mCells)]))], 1000⟩) h ?_ ?_
  ·exact weak_by
  intro np2 p2 yp2 h hfp2
  unfold s_l10Alone_L2 at h
  refine avb ?_
  refine lns (v0.mCells.length : Int) ?_
  refine avb ?_
  refine brb h ?_ ?_<;>intro _ h
  ·refine plb ?_;refine call_sel (E := fun (x : Bool) => DV.one (D.b x)) h (fun x5 h1 => (s_IsWhite_ok N v0 p2 h1)) (fun x5 hx5 h => ?_)
   refine avb ?_
   refine brb h ?_ ?_<;>intro _ h
   ·refine plb ?_;refine call_sel (E := fun (x : (List (Int))) => DV.one (D.sl 1 (List.map Gx.encI x))) h (fun x6 h1 => (s_SlotsAt_ok N v0 p2 h1)) (fun x6 hx6 h => ?_)
    refine avb ?_
    refine lns (x6.length : Int) ?_
    refine avb ?_
    refine brb h ?_ ?_<;>intro _ h
    ·have h := finr hfp2 h
     have h := cutr gt7 h
     cases h;exact eq_by
    ·exact lbk hfp2 h
   ·exact lbk hfp2 h
  ·have h := finr hfp2 h
   refine cut_at (()) (some_in h) ?_
   exact weak_by
 rintro t7 rfl
 have h : _ = some _ := gt7
 refine avb ?_
 cases h;exact eq_by

theorem s_FormOf_ok (N : Nat) (v0 : Gx.Grid) {r : Int} (h : s_FormOf N v0 = some r) : Pure Tryz.prog 114 [DV.agg (Gx.Grid.enc v0)] (DV.one (D.i r)) := by
 refine pure_of_walk Tryz.tok Tryz.mixed Tryz.func114 (by kernel_rfl) fun W => ?_
 unfold s_FormOf at h
 refine avb ?_
 refine plb ?_;refine call_sel (E := fun (x : Bool) => DV.one (D.b x)) h (fun x1 h1 => (s_IsGrid_ok N v0 h1)) (fun x1 hx1 h => ?_)
 refine avb ?_
 refine brb h ?_ ?_<;>intro _ h
 ·cases h;exact eq_by
 ·refine plb ?_;refine call_sel (E := fun (x : Bool) => DV.one (D.b x)) h (fun x2 h1 => (s_IsSymmetric_ok N v0 h1)) (fun x2 hx2 h => ?_)
  refine avb ?_
  refine brb h ?_ ?_<;>intro _ h
  ·cases h;exact eq_by
  ·refine plb ?_;refine call_sel (E := fun (x : Bool) => DV.one (D.b x)) h (fun x3 h1 => (s_IsConnected_ok N v0 h1)) (fun x3 hx3 h => ?_)
   refine avb ?_
   refine brb h ?_ ?_<;>intro _ h
   ·cases h;exact eq_by
   ·refine plb ?_;refine call_sel (E := fun (x : Bool) => DV.one (D.b x)) h (fun x4 h1 => (s_l10Short_ok N v0 h1)) (fun x4 hx4 h => ?_)
    refine avb ?_
    refine brb h ?_ ?_<;>intro _ h
    ·cases h;exact eq_by
    ·refine plb ?_;refine call_sel (E := fun (x : Bool) => DV.one (D.b x)) h (fun x5 h1 => (s_l10Alone_ok N v0 h1)) (fun x5 hx5 h => ?_)
     refine avb ?_
     refine brb h ?_ ?_<;>intro _ h
     ·cases h;exact eq_by
     ·cases h;exact eq_by

theorem s_IsPuzzle_ok (N : Nat) (v0 : Gx.Puzzle) {r : Bool} (h : s_IsPuzzle N v0 = some r) : Pure Tryz.prog 161 [DV.agg (Gx.Puzzle.enc v0)] (DV.one (D.b r)) := by
 refine pure_of_walk Tryz.tok Tryz.mixed Tryz.func161 (by kernel_rfl) fun W => ?_
 unfold s_IsPuzzle at h
 refine ab0 ?_
 refine W.r_seq ?_
 refine ab0 ?_
 obtain ⟨zt3, h, gt3⟩ := cutb_some h
 refine W.r_cut (fun (t3 : Unit) => ⟨[(1, .ptr 1 0 0)], [(1, some (.box [.d (D.i v0.mGrid.mRows), .d (D.i v0.mGrid.mCols), .d (D.s v0.mGrid.mCells), .d (D.sl 2 (List.map Gx.Clue.enc v0.mClues)), .d (D.sl 1 (List.map Gx.encI v0.mSeals)), .d (D.i v0.mSalt)]))], 1000⟩) (fun t => .nx t = zt3) ?_ ?_
 ·refine avb ?_
  refine loop_lp (fun (p1 : Int) => ⟨[(1, .ptr 1 0 0), (3, .d (D.i p1))], [(1, some (.box [.d (D.i v0.mGrid.mRows), .d (D.i v0.mGrid.mCols), .d (D.s v0.mGrid.mCells), .d (D.sl 2 (List.map Gx.Clue.enc v0.mClues)), .d (D.sl 1 (List.map Gx.encI v0.mSeals)), .d (D.i v0.mSalt)]))], 1000⟩) h ?_ ?_
  ·exact weak_by
  intro np1 p1 yp1 h hfp1
  unfold s_IsPuzzle_L1 at h
  refine avb ?_
  refine lns (v0.mClues.length : Int) ?_
  refine avb ?_
  refine brb h ?_ ?_<;>intro _ h
  ·refine idx_sel h (fun x1 hx1 h => ?_)
   refine avb ?_
   refine plb ?_;refine call_sel (E := fun (x : Bool) => DV.one (D.b x)) h (fun x2 h1 => (s_IsClue_ok N x1 h1)) (fun x2 hx2 h => ?_)
   refine avb ?_
   refine brb h ?_ ?_<;>intro _ h
   ·have h := finr hfp1 h
    have h := cutr gt3 h
    cases h;exact eq_by
   ·exact lbk hfp1 h
  ·have h := finr hfp1 h
   refine cut_at (()) (some_in h) ?_
   exact weak_by
 rintro t3 rfl
 have h : _ = some _ := gt3
 refine avb ?_
 refine plb ?_;refine call_sel (E := fun (x : (List (Gx.Slot))) => DV.one (D.sl 4 (List.map Gx.Slot.enc x))) h (fun x4 h1 => (s_SlotsOf_ok N v0.mGrid h1)) (fun x4 hx4 h => ?_)
 refine avb ?_
 refine lns (x4.length : Int) ?_
 refine avb ?_
 refine plb ?_;refine call_sel (E := fun (x : Int) => DV.one (D.i x)) h (fun x5 h1 => (s_FormOf_ok N v0.mGrid h1)) (fun x5 hx5 h => ?_)
 refine avb ?_
 refine brb h ?_ ?_<;>intro _ h
 ·refine lns (v0.mClues.length : Int) ?_
  refine avb ?_
  refine brb h ?_ ?_<;>intro _ h
  ·refine lns (v0.mSeals.length : Int) ?_
   refine avb ?_
   refine brb h ?_ ?_<;>intro _ h
   ·refine plb ?_;refine call_sel (E := fun (x : Bool) => DV.one (D.b x)) h (fun x6 h1 => (s_l1In_ok N v0.mSalt 1 9999 h1)) (fun x6 hx6 h => ?_)
    refine avb ?_
    cases h;exact eq_by
   ·cases h;exact eq_by
  ·cases h;exact eq_by
 ·cases h;exact eq_by

theorem s_IsFill_ok (N : Nat) (v0 : Gx.Grid) (v1 : List UInt8) {r : Bool} (h : s_IsFill N v0 v1 = some r) : Pure Tryz.prog 115 [DV.agg (Gx.Grid.enc v0), DV.one (D.s v1)] (DV.one (D.b r)) := by
 refine pure_of_walk Tryz.tok Tryz.mixed Tryz.func115 (by kernel_rfl) fun W => ?_
 unfold s_IsFill at h
 refine avb ?_
 refine plb ?_;refine call_sel (E := fun (x : Bool) => DV.one (D.b x)) h (fun x1 h1 => (s_IsGrid_ok N v0 h1)) (fun x1 hx1 h => ?_)
 refine avb ?_
 refine brb h ?_ ?_<;>intro _ h
 ·cases h;exact eq_by
 ·refine lns (v1.length : Int) ?_
  refine avb ?_
  refine lns (v0.mCells.length : Int) ?_
  refine avb ?_
  refine br_sel h (fun _ h => ?_) (fun _ h => ?_)
  ·refine avb ?_
   cases h;exact eq_by
  ·refine ab0 ?_
   obtain ⟨zt3, h, gt3⟩ := cutb_some h
   refine W.r_cut (fun (t3 : Unit) => ⟨[], [], 1000⟩) (fun t => .nx t = zt3) ?_ ?_
   ·refine avb ?_
    refine loop_lp (fun (p1 : Int) => ⟨[(1, .d (D.s v1)), (2, .ptr 1 0 0), (5, .d (D.i p1))], [(1, some (.box [.d (D.i v0.mRows), .d (D.i v0.mCols), .d (D.s v0.mCells)]))], 1000⟩) h ?_ ?_
    ·exact weak_by
    intro np1 p1 yp1 h hfp1
    unfold s_IsFill_L1 at h
    refine avb ?_
    refine lns (v1.length : Int) ?_
    refine avb ?_
    refine br_sel h (fun _ h => ?_) (fun _ h => ?_)
    ·refine ab0 ?_
     refine W.r_seq ?_
     refine ab0 ?_
     obtain ⟨zt2, h, gt2⟩ := bnd_some h
     refine W.r_cut (fun (t2 : Bool) => ⟨[(1, .d (D.s v1)), (2, .ptr 1 0 0), (5, .d (D.i p1)), (6, .d (D.b t2))], [(1, some (.box [.d (D.i v0.mRows), .d (D.i v0.mCols), .d (D.s v0.mCells)]))], 1000⟩) (fun t => t = zt2) ?_ ?_
     ·refine avb ?_
      refine chk_sel h (fun q => q) (fun h => ?_)
      refine avb ?_
      refine brb h ?_ ?_<;>intro _ h
      ·refine cut_at (true) (some_in h) ?_
       exact weak_by
      ·refine chk_sel h (fun q => q) (fun h => ?_)
       refine avb ?_
       refine brb h ?_ ?_<;>intro _ h
       ·refine chk_sel h (fun q => q) (fun h => ?_)
        refine avb ?_
        refine cut_at (decide ((byteI v1 p1) ≤ 122)) (some_in h) ?_
        exact weak_by
       ·refine cut_at (false) (some_in h) ?_
        exact weak_by
     rintro t2 rfl
     have h : _ = some _ := gt2
     refine avb ?_
     refine chk_sel h (fun q => q) (fun h => ?_)
     refine avb ?_
     refine brb h ?_ ?_<;>intro _ h
     ·refine chk_sel h (fun q => q) (fun h => ?_)
      refine avb ?_
      refine brb h ?_ ?_<;>intro _ h
      ·have h := finr hfp1 h
       have h := cutr gt3 h
       cases h;exact eq_by
      ·refine chk_sel h (fun q => q) (fun h => ?_)
       refine avb ?_
       refine brb h ?_ ?_<;>intro _ h
       ·refine brb h ?_ ?_<;>intro _ h
        ·have h := finr hfp1 h
         have h := cutr gt3 h
         cases h;exact eq_by
        ·exact lbk hfp1 h
       ·exact lbk hfp1 h
     ·refine chk_sel h (fun q => q) (fun h => ?_)
      refine avb ?_
      refine brb h ?_ ?_<;>intro _ h
      ·refine brb h ?_ ?_<;>intro _ h
       ·have h := finr hfp1 h
        have h := cutr gt3 h
        cases h;exact eq_by
       ·exact lbk hfp1 h
      ·exact lbk hfp1 h
    ·refine avb ?_
     have h := finr hfp1 h
     refine cut_at (()) (some_in h) ?_
     exact weak_by
   rintro t3 rfl
   have h : _ = some _ := gt3
   refine avb ?_
   cases h;exact eq_by

theorem s_l11Open_ok (N : Nat) (v0 : List UInt8) {r : Bool} (h : s_l11Open N v0 = some r) : Pure Tryz.prog 199 [DV.one (D.s v0)] (DV.one (D.b r)) := by
 refine pure_of_walk Tryz.tok Tryz.mixed Tryz.func199 (by kernel_rfl) fun W => ?_
 unfold s_l11Open at h
 refine ab0 ?_
 refine W.r_seq ?_
 refine ab0 ?_
 obtain ⟨zt1, h, gt1⟩ := cutb_some h
 refine W.r_cut (fun (t1 : Unit) => ⟨[], [], 1000⟩) (fun t => .nx t = zt1) ?_ ?_
 ·refine avb ?_
  refine loop_lp (fun (p1 : Int) => ⟨[(0, .d (D.s v0)), (3, .d (D.i p1))], [], 1000⟩) h ?_ ?_
  ·exact weak_by
  intro np1 p1 yp1 h hfp1
  unfold s_l11Open_L1 at h
  refine avb ?_
  refine lns (v0.length : Int) ?_
  refine avb ?_
  refine brb h ?_ ?_<;>intro _ h
  ·refine chk_sel h (fun q => q) (fun h => ?_)
   refine avb ?_
   refine brb h ?_ ?_<;>intro _ h
   ·have h := finr hfp1 h
    have h := cutr gt1 h
    cases h;exact eq_by
   ·exact lbk hfp1 h
  ·have h := finr hfp1 h
   refine cut_at (()) (some_in h) ?_
   exact weak_by
 rintro t1 rfl
 have h : _ = some _ := gt1
 refine avb ?_
 cases h;exact eq_by

theorem s_IsFull_ok (N : Nat) (v0 : Gx.Grid) (v1 : List UInt8) {r : Bool} (h : s_IsFull N v0 v1 = some r) : Pure Tryz.prog 162 [DV.agg (Gx.Grid.enc v0), DV.one (D.s v1)] (DV.one (D.b r)) := by
 refine pure_of_walk Tryz.tok Tryz.mixed Tryz.func162 (by kernel_rfl) fun W => ?_
 unfold s_IsFull at h
 refine avb ?_
 refine plb ?_;refine call_sel (E := fun (x : Bool) => DV.one (D.b x)) h (fun x1 h1 => (s_IsFill_ok N v0 v1 h1)) (fun x1 hx1 h => ?_)
 refine avb ?_
 refine brb h ?_ ?_<;>intro _ h
 ·refine plb ?_;refine call_sel (E := fun (x : Bool) => DV.one (D.b x)) h (fun x2 h1 => (s_l11Open_ok N v1 h1)) (fun x2 hx2 h => ?_)
  refine avb ?_
  cases h;exact eq_by
 ·cases h;exact eq_by

theorem s_SlotPattern_ok (N : Nat) (v0 : Gx.Grid) (v1 : List UInt8) (v2 : Int) {r : (List UInt8)} (h : s_SlotPattern N v0 v1 v2 = some r) : Pure Tryz.prog 153 [DV.agg (Gx.Grid.enc v0), DV.one (D.s v1), DV.one (D.i v2)] (DV.one (D.s r)) := by
 refine pure_of_walk Tryz.tok Tryz.mixed Tryz.func153 (by kernel_rfl) fun W => ?_
 unfold s_SlotPattern at h
 refine avb ?_
 refine plb ?_;refine call_sel (E := fun (x : (List (Gx.Slot))) => DV.one (D.sl 4 (List.map Gx.Slot.enc x))) h (fun x1 h1 => (s_SlotsOf_ok N v0 h1)) (fun x1 hx1 h => ?_)
 refine avb ?_
 refine plb ?_;refine call_sel (E := fun (x : Bool) => DV.one (D.b x)) h (fun x2 h1 => (s_IsFill_ok N v0 v1 h1)) (fun x2 hx2 h => ?_)
 refine avb ?_
 refine brb h ?_ ?_<;>intro _ h
 ·cases h;exact eq_by
 ·refine lns (x1.length : Int) ?_
  refine avb ?_
  refine plb ?_;refine call_sel (E := fun (x : Bool) => DV.one (D.b x)) h (fun x3 h1 => (s_l1In_ok N v2 0 (w64 ((x1.length : Int) - 1)) h1)) (fun x3 hx3 h => ?_)
  refine avb ?_
  refine brb h ?_ ?_<;>intro _ h
  ·cases h;exact eq_by
  ·refine idxp_sel h (fun x4 hx4 h => ?_)
   refine avb ?_
   refine ldp_sel hx4 ?_
   refine avb ?_
   refine plb ?_;refine call_sel (E := fun (x : (List (Int))) => DV.one (D.sl 1 (List.map Gx.encI x))) h (fun x5 h1 => (s_CellsOf_ok N v0 x4 h1)) (fun x5 hx5 h => ?_)
   refine ab0 ?_
   obtain ⟨zt8, h, gt8⟩ := bnd_some h
   refine W.r_cut (fun (t8 : (List UInt8)) => ⟨[(8, .d (D.s t8))], [], 1000⟩) (fun t => t = zt8) ?_ ?_
   ·refine avb ?_
    refine loop_lp (fun (p1 : (List UInt8) × Int) => ⟨[(1, .d (D.s v1)), (8, .d (D.s p1.1)), (9, .sl 1), (10, .d (D.i p1.2))], [(1, some (.arr 1 (List.map Gx.encI x5) true))], 1000⟩) h ?_ ?_
    ·exact weak_by
    intro np1 p1 yp1 h hfp1
    unfold s_SlotPattern_L1 at h
    refine avb ?_
    refine lns (x5.length : Int) ?_
    refine avb ?_
    refine brb h ?_ ?_<;>intro _ h
    ·refine idxp_sel h (fun x6 hx6 h => ?_)
     refine avb ?_
     refine ldp_sel hx6 ?_
     refine avb ?_
     refine idxp_sel h (fun x7 hx7 h => ?_)
     refine avb ?_
     refine ldp_sel hx7 ?_
     refine avb ?_
     refine chk_sel h (fun q => q) (fun h => ?_)
     refine avb ?_
     refine chk_sel h (fun q => Nat.le_trans q (by decide)) (fun h => ?_)
     refine avb ?_
     exact lbk hfp1 h
    ·have h := finr hfp1 h
     refine cut_at (p1.1) (some_in h) ?_
     exact weak_by
   rintro t8 rfl
   have h : _ = some _ := gt8
   refine avb ?_
   cases h;exact eq_by

theorem s_LettersOf_ok (N : Nat) (v0 : List UInt8) {r : (List (Int))} (h : s_LettersOf N v0 = some r) : Pure Tryz.prog 216 [DV.one (D.s v0)] (DV.one (D.sl 1 (List.map Gx.encI r))) := by
 refine pure_of_walk Tryz.tok Tryz.mixed Tryz.func216 (by kernel_rfl) fun W => ?_
 unfold s_LettersOf at h
 refine ab0 ?_
 refine W.r_seq ?_
 refine ab0 ?_
 refine W.r_seq ?_
 refine ab0 ?_
 obtain ⟨zt1, h, gt1⟩ := bnd_some h
 refine W.r_cut (fun (t1 : (List (Int))) => ⟨[(3, .sl 1)], [(1, some (.arr 1 (List.map Gx.encI t1) true))], 1000⟩) (fun t => t = zt1) ?_ ?_
 ·refine avb ?_
  refine loop_lp (fun (p1 : (List (Int)) × Int) => ⟨[(0, .d (D.s v0)), (3, .sl 1), (4, .d (D.i p1.2))], [(1, some (.arr 1 (List.map Gx.encI p1.1) true))], 1000⟩) h ?_ ?_
  ·exact weak_by
  intro np1 p1 yp1 h hfp1
  unfold s_LettersOf_L1 at h
  refine avb ?_
  refine lns (v0.length : Int) ?_
  refine avb ?_
  refine brb h ?_ ?_<;>intro _ h
  ·refine chk_sel h (fun q => q) (fun h => ?_)
   refine avb ?_
   refine app_sel h (app_ok (by (first|rfl|simp [sub])) (by (first|rfl|simp [sub])) (by decide)) (by (intro h; cases h)) (fun h => ?_)
   refine avb ?_
   exact lbk hfp1 h
  ·have h := finr hfp1 h
   refine cut_at (p1.1) (some_in h) ?_
   exact weak_by
 rintro t1 rfl
 have h : _ = some _ := gt1
 refine avb ?_
 cases h;exact eq_by

theorem s_Mod_ok (N : Nat) (v0 : Int) (v1 : Int) {r : Int} (h : s_Mod N v0 v1 = some r) : Pure Tryz.prog 229 [DV.one (D.i v0), DV.one (D.i v1)] (DV.one (D.i r)) := by
 refine pure_of_walk Tryz.tok Tryz.mixed Tryz.func229 (by kernel_rfl) fun W => ?_
 unfold s_Mod at h
 refine avb ?_
 refine plb ?_;refine call_sel (E := fun (x : Bool) => DV.one (D.b x)) h (fun x1 h1 => (s_l1In_ok N v1 1 1000000000000 h1)) (fun x1 hx1 h => ?_)
 refine avb ?_
 refine brb h ?_ ?_<;>intro _ h
 ·cases h;exact eq_by
 ·refine chk_sel h (fun q => q) (fun h => ?_)
  refine avb ?_
  refine chk_sel h (fun q => q) (fun h => ?_)
  refine avb ?_
  cases h;exact eq_by

theorem s_Hash_ok (N : Nat) (v0 : List (Int)) {r : Int} (h : s_Hash N v0 = some r) : Pure Tryz.prog 215 [DV.one (D.sl 1 (List.map Gx.encI v0))] (DV.one (D.i r)) := by
 refine pure_of_walk Tryz.tok Tryz.mixed Tryz.func215 (by kernel_rfl) fun W => ?_
 unfold s_Hash at h
 refine ab0 ?_
 refine W.r_seq ?_
 refine ab0 ?_
 refine W.r_seq ?_
 refine ab0 ?_
 obtain ⟨zt3, h, gt3⟩ := bnd_some h
 refine W.r_cut (fun (t3 : Int) => ⟨[(3, .d (D.i t3))], [], 1000⟩) (fun t => t = zt3) ?_ ?_
 ·refine avb ?_
  refine loop_lp (fun (p1 : Int × Int) => ⟨[(0, .d (D.sl 1 (List.map Gx.encI v0))), (3, .d (D.i p1.1)), (4, .d (D.i p1.2))], [], 1000⟩) h ?_ ?_
  ·exact weak_by
  intro np1 p1 yp1 h hfp1
  unfold s_Hash_L1 at h
  refine avb ?_
  refine lns (v0.length : Int) ?_
  refine avb ?_
  refine brb h ?_ ?_<;>intro _ h
  ·refine idx_sel h (fun x1 hx1 h => ?_)
   refine avb ?_
   refine plb ?_;refine call_sel (E := fun (x : Int) => DV.one (D.i x)) h (fun x2 h1 => (s_Mod_ok N x1 2147483647 h1)) (fun x2 hx2 h => ?_)
   refine avb ?_
   refine chk_sel h (fun q => q) (fun h => ?_)
   refine avb ?_
   exact lbk hfp1 h
  ·have h := finr hfp1 h
   refine cut_at (p1.1) (some_in h) ?_
   exact weak_by
 rintro t3 rfl
 have h : _ = some _ := gt3
 refine avb ?_
 cases h;exact eq_by

theorem s_SealAnswer_ok (N : Nat) (v0 : Int) (v1 : Int) (v2 : List UInt8) {r : Int} (h : s_SealAnswer N v0 v1 v2 = some r) : Pure Tryz.prog 189 [DV.one (D.i v0), DV.one (D.i v1), DV.one (D.s v2)] (DV.one (D.i r)) := by
 refine pure_of_walk Tryz.tok Tryz.mixed Tryz.func189 (by kernel_rfl) fun W => ?_
 unfold s_SealAnswer at h
 refine avb ?_
 refine plb ?_;refine call_sel (E := fun (x : Bool) => DV.one (D.b x)) h (fun x1 h1 => (s_IsWord_ok N v2 h1)) (fun x1 hx1 h => ?_)
 refine avb ?_
 refine brb h ?_ ?_<;>intro _ h
 ·cases h;exact eq_by
 ·refine lns (v2.length : Int) ?_
  refine avb ?_
  refine plb ?_;refine call_sel (E := fun (x : (List (Int))) => DV.one (D.sl 1 (List.map Gx.encI x))) h (fun x2 h1 => (s_LettersOf_ok N v2 h1)) (fun x2 hx2 h => ?_)
  refine avb ?_
  refine app_sel h (app_ok (by (first|rfl|simp [sub])) (by (first|rfl|simp [sub])) (by decide)) (by (intro h; cases h)) (fun h => ?_)
  refine avb ?_
  refine plb ?_;refine call_sel (E := fun (x : Int) => DV.one (D.i x)) h (fun x3 h1 => (pure_args (by (exact eq_by)) (s_Hash_ok N (([v0, v1, (v2.length : Int)]) ++ x2) h1))) (fun x3 hx3 h => ?_)
  refine avb ?_
  cases h;exact eq_by

theorem s_ChecksAnswer_ok (N : Nat) (v0 : List (Int)) (v1 : Int) (v2 : Int) (v3 : List UInt8) {r : Bool} (h : s_ChecksAnswer N v0 v1 v2 v3 = some r) : Pure Tryz.prog 152 [DV.one (D.sl 1 (List.map Gx.encI v0)), DV.one (D.i v1), DV.one (D.i v2), DV.one (D.s v3)] (DV.one (D.b r)) := by
 refine pure_of_walk Tryz.tok Tryz.mixed Tryz.func152 (by kernel_rfl) fun W => ?_
 unfold s_ChecksAnswer at h
 refine avb ?_
 refine lns (v0.length : Int) ?_
 refine avb ?_
 refine plb ?_;refine call_sel (E := fun (x : Bool) => DV.one (D.b x)) h (fun x1 h1 => (s_l1In_ok N v2 0 (w64 ((v0.length : Int) - 1)) h1)) (fun x1 hx1 h => ?_)
 refine avb ?_
 refine brb h ?_ ?_<;>intro _ h
 ·refine plb ?_;refine call_sel (E := fun (x : Bool) => DV.one (D.b x)) h (fun x2 h1 => (s_IsWord_ok N v3 h1)) (fun x2 hx2 h => ?_)
  refine avb ?_
  refine brb h ?_ ?_<;>intro _ h
  ·refine plb ?_;refine call_sel (E := fun (x : Int) => DV.one (D.i x)) h (fun x3 h1 => (s_SealAnswer_ok N v1 v2 v3 h1)) (fun x3 hx3 h => ?_)
   refine avb ?_
   refine idx_sel h (fun x4 hx4 h => ?_)
   refine avb ?_
   cases h;exact eq_by
  ·cases h;exact eq_by
 ·cases h;exact eq_by

theorem s_RightSlots_ok (N : Nat) (v0 : Gx.Grid) (v1 : List UInt8) (v2 : List (Int)) (v3 : Int) {r : (List (Int))} (h : s_RightSlots N v0 v1 v2 v3 = some r) : Pure Tryz.prog 89 [DV.agg (Gx.Grid.enc v0), DV.one (D.s v1), DV.one (D.sl 1 (List.map Gx.encI v2)), DV.one (D.i v3)] (DV.one (D.sl 1 (List.map Gx.encI r))) := by
 refine pure_of_walk Tryz.tok Tryz.mixed Tryz.func89 (by kernel_rfl) fun W => ?_
 unfold s_RightSlots at h
 refine avb ?_
 refine plb ?_;refine call_sel (E := fun (x : (List (Gx.Slot))) => DV.one (D.sl 4 (List.map Gx.Slot.enc x))) h (fun x1 h1 => (s_SlotsOf_ok N v0 h1)) (fun x1 hx1 h => ?_)
 refine ab0 ?_
 obtain ⟨zt5, h, gt5⟩ := bnd_some h
 refine W.r_cut (fun (t5 : (List (Int))) => ⟨[(9, .sl 1)], [(1, some (.arr 1 (List.map Gx.encI t5) true))], 1000⟩) (fun t => t = zt5) ?_ ?_
 ·refine avb ?_
  refine loop_lp (fun (p1 : (List (Int)) × Int) => ⟨[(1, .d (D.s v1)), (2, .d (D.sl 1 (List.map Gx.encI v2))), (3, .d (D.i v3)), (4, .ptr 1 0 0), (9, .sl 2), (10, .sl 3), (11, .d (D.i p1.2))], [(1, some (.box [.d (D.i v0.mRows), .d (D.i v0.mCols), .d (D.s v0.mCells)])), (2, some (.arr 1 (List.map Gx.encI p1.1) true)), (3, some (.arr 4 (List.map Gx.Slot.enc x1) true))], 1000⟩) h ?_ ?_
  ·exact weak_by
  intro np1 p1 yp1 h hfp1
  unfold s_RightSlots_L1 at h
  refine avb ?_
  refine lns (x1.length : Int) ?_
  refine avb ?_
  refine brb h ?_ ?_<;>intro _ h
  ·refine plb ?_;refine call_sel (E := fun (x : Bool) => DV.one (D.b x)) h (fun x2 h1 => (s_IsFill_ok N v0 v1 h1)) (fun x2 hx2 h => ?_)
   refine avb ?_
   refine brb h ?_ ?_<;>intro _ h
   ·refine plb ?_;refine call_sel (E := fun (x : (List UInt8)) => DV.one (D.s x)) h (fun x3 h1 => (s_SlotPattern_ok N v0 v1 p1.2 h1)) (fun x3 hx3 h => ?_)
    refine avb ?_
    refine plb ?_;refine call_sel (E := fun (x : Bool) => DV.one (D.b x)) h (fun x4 h1 => (s_ChecksAnswer_ok N v2 v3 p1.2 x3 h1)) (fun x4 hx4 h => ?_)
    refine avb ?_
    refine brb h ?_ ?_<;>intro _ h
    ·refine app_sel h (app_ok (by (first|rfl|simp [sub])) (by (first|rfl|simp [sub])) (by decide)) (by (intro h; cases h)) (fun h => ?_)
     refine avb ?_
     exact lbk hfp1 h
    ·exact lbk hfp1 h
   ·have h := finr hfp1 h
    refine cut_at (p1.1) (some_in h) ?_
    exact weak_by
  ·have h := finr hfp1 h
   refine cut_at (p1.1) (some_in h) ?_
   exact weak_by
 rintro t5 rfl
 have h : _ = some _ := gt5
 refine avb ?_
 cases h;exact eq_by

theorem s_IsSolved_ok (N : Nat) (v0 : Gx.Puzzle) (v1 : List UInt8) {r : Bool} (h : s_IsSolved N v0 v1 = some r) : Pure Tryz.prog 108 [DV.agg (Gx.Puzzle.enc v0), DV.one (D.s v1)] (DV.one (D.b r)) := by
 refine pure_of_walk Tryz.tok Tryz.mixed Tryz.func108 (by kernel_rfl) fun W => ?_
 unfold s_IsSolved at h
 refine avb ?_
 refine plb ?_;refine call_sel (E := fun (x : Bool) => DV.one (D.b x)) h (fun x1 h1 => (s_IsPuzzle_ok N v0 h1)) (fun x1 hx1 h => ?_)
 refine avb ?_
 refine brb h ?_ ?_<;>intro _ h
 ·refine plb ?_;refine call_sel (E := fun (x : Bool) => DV.one (D.b x)) h (fun x2 h1 => (s_IsFull_ok N v0.mGrid v1 h1)) (fun x2 hx2 h => ?_)
  refine avb ?_
  refine brb h ?_ ?_<;>intro _ h
  ·refine plb ?_;refine call_sel (E := fun (x : (List (Int))) => DV.one (D.sl 1 (List.map Gx.encI x))) h (fun x3 h1 => (s_RightSlots_ok N v0.mGrid v1 v0.mSeals v0.mSalt h1)) (fun x3 hx3 h => ?_)
   refine avb ?_
   refine lns (x3.length : Int) ?_
   refine avb ?_
   refine lns (v0.mClues.length : Int) ?_
   refine avb ?_
   cases h;exact eq_by
  ·cases h;exact eq_by
 ·cases h;exact eq_by

theorem s_IsIssue_ok (N : Nat) (v0 : Gx.Issue) {r : Bool} (h : s_IsIssue N v0 = some r) : Pure Tryz.prog 46 [DV.agg (Gx.Issue.enc v0)] (DV.one (D.b r)) := by
 refine pure_of_walk Tryz.tok Tryz.mixed Tryz.func46 (by kernel_rfl) fun W => ?_
 unfold s_IsIssue at h
 refine avb ?_
 refine plb ?_;refine call_sel (E := fun (x : Bool) => DV.one (D.b x)) h (fun x1 h1 => (s_l1In_ok N v0.mNumber 1 999 h1)) (fun x1 hx1 h => ?_)
 refine avb ?_
 refine brb h ?_ ?_<;>intro _ h
 ·refine plb ?_;refine call_sel (E := fun (x : Bool) => DV.one (D.b x)) h (fun x2 h1 => (s_IsSolved_ok N v0.mPuzzle v0.mFill h1)) (fun x2 hx2 h => ?_)
  refine avb ?_
  refine brb h ?_ ?_<;>intro _ h
  ·refine brb h ?_ ?_<;>intro _ h
   ·refine brb h ?_ ?_<;>intro _ h
    ·cases h;exact eq_by
    ·cases h;exact eq_by
   ·cases h;exact eq_by
  ·cases h;exact eq_by
 ·cases h;exact eq_by

theorem s_BeforeWord_ok (N : Nat) (v0 : List UInt8) (v1 : List UInt8) {r : Bool} (h : s_BeforeWord N v0 v1 = some r) : Pure Tryz.prog 110 [DV.one (D.s v0), DV.one (D.s v1)] (DV.one (D.b r)) := by
 refine pure_of_walk Tryz.tok Tryz.mixed Tryz.func110 (by kernel_rfl) fun W => ?_
 unfold s_BeforeWord at h
 refine avb ?_
 refine lns (v0.length : Int) ?_
 refine avb ?_
 refine lns (v1.length : Int) ?_
 refine avb ?_
 refine brb h ?_ ?_<;>intro _ h
 ·refine lns (v0.length : Int) ?_
  refine avb ?_
  refine lns (v1.length : Int) ?_
  refine avb ?_
  cases h;exact eq_by
 ·cases h;exact eq_by

theorem s_IsList_ok (N : Nat) (v0 : List (Gx.Listed)) {r : Bool} (h : s_IsList N v0 = some r) : Pure Tryz.prog 47 [DV.one (D.sl 4 (List.map Gx.Listed.enc v0))] (DV.one (D.b r)) := by
 refine pure_of_walk Tryz.tok Tryz.mixed Tryz.func47 (by kernel_rfl) fun W => ?_
 unfold s_IsList at h
 refine ab0 ?_
 refine W.r_seq ?_
 refine ab0 ?_
 obtain ⟨zt6, h, gt6⟩ := cutb_some h
 refine W.r_cut (fun (t6 : Unit) => ⟨[(0, .d (D.sl 4 (List.map Gx.Listed.enc v0)))], [], 1000⟩) (fun t => .nx t = zt6) ?_ ?_
 ·refine avb ?_
  refine loop_lp (fun (p1 : Int) => ⟨[(0, .d (D.sl 4 (List.map Gx.Listed.enc v0))), (3, .d (D.i p1))], [], 1000⟩) h ?_ ?_
  ·exact weak_by
  intro np1 p1 yp1 h hfp1
  unfold s_IsList_L1 at h
  refine avb ?_
  refine lns (v0.length : Int) ?_
  refine avb ?_
  refine brb h ?_ ?_<;>intro _ h
  ·refine idx_sel h (fun x1 hx1 h => ?_)
   refine avb ?_
   refine plb ?_;refine call_sel (E := fun (x : Bool) => DV.one (D.b x)) h (fun x2 h1 => (s_IsWord_ok N x1.mWord h1)) (fun x2 hx2 h => ?_)
   refine avb ?_
   refine brb h ?_ ?_<;>intro _ h
   ·have h := finr hfp1 h
    have h := cutr gt6 h
    cases h;exact eq_by
   ·refine brb h ?_ ?_<;>intro _ h
    ·have h := finr hfp1 h
     have h := cutr gt6 h
     cases h;exact eq_by
    ·refine brb h ?_ ?_<;>intro _ h
     ·have h := finr hfp1 h
      have h := cutr gt6 h
      cases h;exact eq_by
     ·refine brb h ?_ ?_<;>intro _ h
      ·have h := finr hfp1 h
       have h := cutr gt6 h
       cases h;exact eq_by
      ·refine plb ?_;refine call_sel (E := fun (x : Bool) => DV.one (D.b x)) h (fun x3 h1 => (s_l1In_ok N x1.mScore 0 99 h1)) (fun x3 hx3 h => ?_)
       refine avb ?_
       refine brb h ?_ ?_<;>intro _ h
       ·have h := finr hfp1 h
        have h := cutr gt6 h
        cases h;exact eq_by
       ·refine brb h ?_ ?_<;>intro _ h
        ·refine idx_sel h (fun x4 hx4 h => ?_)
         refine avb ?_
         refine plb ?_;refine call_sel (E := fun (x : Bool) => DV.one (D.b x)) h (fun x5 h1 => (s_BeforeWord_ok N x4.mWord x1.mWord h1)) (fun x5 hx5 h => ?_)
         refine avb ?_
         refine brb h ?_ ?_<;>intro _ h
         ·have h := finr hfp1 h
          have h := cutr gt6 h
          cases h;exact eq_by
         ·exact lbk hfp1 h
        ·exact lbk hfp1 h
  ·have h := finr hfp1 h
   refine cut_at (()) (some_in h) ?_
   exact weak_by
 rintro t6 rfl
 have h : _ = some _ := gt6
 refine avb ?_
 refine lns (v0.length : Int) ?_
 refine avb ?_
 cases h;exact eq_by

theorem s_l17Before_ok (N : Nat) (v0 : Gx.Meaning) (v1 : Gx.Meaning) {r : Bool} (h : s_l17Before N v0 v1 = some r) : Pure Tryz.prog 111 [DV.agg (Gx.Meaning.enc v0), DV.agg (Gx.Meaning.enc v1)] (DV.one (D.b r)) := by
 refine pure_of_walk Tryz.tok Tryz.mixed Tryz.func111 (by kernel_rfl) fun W => ?_
 unfold s_l17Before at h
 refine avb ?_
 refine plb ?_;refine call_sel (E := fun (x : Bool) => DV.one (D.b x)) h (fun x1 h1 => (s_BeforeWord_ok N v0.mWord v1.mWord h1)) (fun x1 hx1 h => ?_)
 refine avb ?_
 refine brb h ?_ ?_<;>intro _ h
 ·cases h;exact eq_by
 ·refine brb h ?_ ?_<;>intro _ h
  ·cases h;exact eq_by
  ·cases h;exact eq_by

theorem s_IsDictionary_ok (N : Nat) (v0 : List (Gx.Meaning)) {r : Bool} (h : s_IsDictionary N v0 = some r) : Pure Tryz.prog 48 [DV.one (D.sl 2 (List.map Gx.Meaning.enc v0))] (DV.one (D.b r)) := by
 refine pure_of_walk Tryz.tok Tryz.mixed Tryz.func48 (by kernel_rfl) fun W => ?_
 unfold s_IsDictionary at h
 refine ab0 ?_
 refine W.r_seq ?_
 refine ab0 ?_
 obtain ⟨zt8, h, gt8⟩ := cutb_some h
 refine W.r_cut (fun (t8 : Unit) => ⟨[(0, .d (D.sl 2 (List.map Gx.Meaning.enc v0)))], [], 1000⟩) (fun t => .nx t = zt8) ?_ ?_
 ·refine avb ?_
  refine loop_lp (fun (p1 : Int) => ⟨[(0, .d (D.sl 2 (List.map Gx.Meaning.enc v0))), (3, .d (D.i p1))], [], 1000⟩) h ?_ ?_
  ·exact weak_by
  intro np1 p1 yp1 h hfp1
  unfold s_IsDictionary_L1 at h
  refine avb ?_
  refine lns (v0.length : Int) ?_
  refine avb ?_
  refine brb h ?_ ?_<;>intro _ h
  ·refine idx_sel h (fun x1 hx1 h => ?_)
   refine avb ?_
   refine plb ?_;refine call_sel (E := fun (x : Bool) => DV.one (D.b x)) h (fun x2 h1 => (s_IsWord_ok N x1.mWord h1)) (fun x2 hx2 h => ?_)
   refine avb ?_
   refine brb h ?_ ?_<;>intro _ h
   ·have h := finr hfp1 h
    have h := cutr gt8 h
    cases h;exact eq_by
   ·refine idx_sel h (fun x3 hx3 h => ?_)
    refine avb ?_
    refine plb ?_;refine call_sel (E := fun (x : Bool) => DV.one (D.b x)) h (fun x4 h1 => (s_l1In_ok N x3.mSense 1 99 h1)) (fun x4 hx4 h => ?_)
    refine avb ?_
    refine brb h ?_ ?_<;>intro _ h
    ·have h := finr hfp1 h
     have h := cutr gt8 h
     cases h;exact eq_by
    ·refine brb h ?_ ?_<;>intro _ h
     ·refine idx_sel h (fun x5 hx5 h => ?_)
      refine avb ?_
      refine idx_sel h (fun x6 hx6 h => ?_)
      refine avb ?_
      refine plb ?_;refine call_sel (E := fun (x : Bool) => DV.one (D.b x)) h (fun x7 h1 => (s_l17Before_ok N x5 x6 h1)) (fun x7 hx7 h => ?_)
      refine avb ?_
      refine brb h ?_ ?_<;>intro _ h
      ·have h := finr hfp1 h
       have h := cutr gt8 h
       cases h;exact eq_by
      ·exact lbk hfp1 h
     ·exact lbk hfp1 h
  ·have h := finr hfp1 h
   refine cut_at (()) (some_in h) ?_
   exact weak_by
 rintro t8 rfl
 have h : _ = some _ := gt8
 refine avb ?_
 refine lns (v0.length : Int) ?_
 refine avb ?_
 cases h;exact eq_by

theorem s_l33Zero_ok (N : Nat) (v0 : Gx.Draft) {r : Bool} (h : s_l33Zero N v0 = some r) : Pure Tryz.prog 49 [DV.agg (Gx.Draft.enc v0)] (DV.one (D.b r)) := by
 refine pure_of_walk Tryz.tok Tryz.mixed Tryz.func49 (by kernel_rfl) fun W => ?_
 unfold s_l33Zero at h
 refine avb ?_
 refine brb h ?_ ?_<;>intro _ h
 ·refine brb h ?_ ?_<;>intro _ h
  ·refine lns (v0.mClues.length : Int) ?_
   refine avb ?_
   refine brb h ?_ ?_<;>intro _ h
   ·cases h;exact eq_by
   ·cases h;exact eq_by
  ·cases h;exact eq_by
 ·cases h;exact eq_by

theorem s_l18Copy_ok (N : Nat) (v0 : Gx.Clue) {r : Gx.Clue} (h : s_l18Copy N v0 = some r) : Pure Tryz.prog 184 [DV.agg (Gx.Clue.enc v0)] (DV.agg (Gx.Clue.enc r)) := by
 refine pure_of_walk Tryz.tok Tryz.mixed Tryz.func184 (by kernel_rfl) fun W => ?_
 unfold s_l18Copy at h
 refine avb ?_
 refine app_sel h (app_ok (by (first|rfl|simp [sub])) (by (first|rfl|simp [sub])) (by decide)) (by (intro _; first | exact flat_map (fun _ => rfl) | exact flat_take (flat_drop (flat_map (fun _ => rfl))))) (fun h => ?_)
 refine avb ?_
 cases h;exact eq_by

theorem s_l21Clues_ok (N : Nat) (v0 : List (Gx.Clue)) {r : (List (Gx.Clue))} (h : s_l21Clues N v0 = some r) : Pure Tryz.prog 183 [DV.one (D.sl 2 (List.map Gx.Clue.enc v0))] (DV.one (D.sl 2 (List.map Gx.Clue.enc r))) := by
 refine pure_of_walk Tryz.tok Tryz.mixed Tryz.func183 (by kernel_rfl) fun W => ?_
 unfold s_l21Clues at h
 refine ab0 ?_
 refine W.r_seq ?_
 refine ab0 ?_
 refine W.r_seq ?_
 refine ab0 ?_
 obtain ⟨zt3, h, gt3⟩ := bnd_some h
 refine W.r_cut (fun (t3 : (List (Gx.Clue))) => ⟨[(3, .sl 1)], [(1, some (.arr 2 (List.map Gx.Clue.enc t3) true))], 1000⟩) (fun t => t = zt3) ?_ ?_
 ·refine avb ?_
  refine loop_lp (fun (p1 : (List (Gx.Clue)) × Int) => ⟨[(0, .d (D.sl 2 (List.map Gx.Clue.enc v0))), (3, .sl 1), (4, .d (D.i p1.2))], [(1, some (.arr 2 (List.map Gx.Clue.enc p1.1) true))], 1000⟩) h ?_ ?_
  ·exact weak_by
  intro np1 p1 yp1 h hfp1
  unfold s_l21Clues_L1 at h
  refine avb ?_
  refine lns (v0.length : Int) ?_
  refine avb ?_
  refine brb h ?_ ?_<;>intro _ h
  ·refine idx_sel h (fun x1 hx1 h => ?_)
   refine avb ?_
   refine plb ?_;refine call_sel (E := fun (x : Gx.Clue) => DV.agg (Gx.Clue.enc x)) h (fun x2 h1 => (s_l18Copy_ok N x1 h1)) (fun x2 hx2 h => ?_)
   refine avb ?_
   refine app_sel h (app_ok (by (first|rfl|simp [sub])) (by (first|rfl|simp [sub])) (by decide)) (by (intro h; cases h)) (fun h => ?_)
   refine avb ?_
   exact lbk hfp1 h
  ·have h := finr hfp1 h
   refine cut_at (p1.1) (some_in h) ?_
   exact weak_by
 rintro t3 rfl
 have h : _ = some _ := gt3
 refine avb ?_
 cases h;exact eq_by

theorem s_l21Copy_ok (N : Nat) (v0 : Gx.Puzzle) {r : Gx.Puzzle} (h : s_l21Copy N v0 = some r) : Pure Tryz.prog 150 [DV.agg (Gx.Puzzle.enc v0)] (DV.agg (Gx.Puzzle.enc r)) := by
 refine pure_of_walk Tryz.tok Tryz.mixed Tryz.func150 (by kernel_rfl) fun W => ?_
 unfold s_l21Copy at h
 refine avb ?_
 refine plb ?_;refine call_sel (E := fun (x : (List (Gx.Clue))) => DV.one (D.sl 2 (List.map Gx.Clue.enc x))) h (fun x1 h1 => (s_l21Clues_ok N v0.mClues h1)) (fun x1 hx1 h => ?_)
 refine avb ?_
 refine app_sel h (app_ok (by (first|rfl|simp [sub])) (by (first|rfl|simp [sub])) (by decide)) (by (intro _; first | exact flat_map (fun _ => rfl) | exact flat_take (flat_drop (flat_map (fun _ => rfl))))) (fun h => ?_)
 refine avb ?_
 cases h;exact eq_by

theorem s_l30Copy_ok (N : Nat) (v0 : Gx.Issue) {r : Gx.Issue} (h : s_l30Copy N v0 = some r) : Pure Tryz.prog 87 [DV.agg (Gx.Issue.enc v0)] (DV.agg (Gx.Issue.enc r)) := by
 refine pure_of_walk Tryz.tok Tryz.mixed Tryz.func87 (by kernel_rfl) fun W => ?_
 unfold s_l30Copy at h
 refine avb ?_
 refine plb ?_;refine call_sel (E := fun (x : Gx.Puzzle) => DV.agg (Gx.Puzzle.enc x)) h (fun x1 h1 => (s_l21Copy_ok N v0.mPuzzle h1)) (fun x1 hx1 h => ?_)
 refine avb ?_
 cases h;exact eq_by

theorem s_IssueOf_ok (N : Nat) (v0 : Gx.House) (v1 : Int) {r : Gx.Issue × Bool} (h : s_IssueOf N v0 v1 = some r) : Pure Tryz.prog 27 [DV.agg (Gx.House.enc v0), DV.one (D.i v1)] (DV.tup [DV.agg (Gx.Issue.enc r.1), DV.one (D.b r.2)]) := by
 refine pure_of_walk Tryz.tok Tryz.mixed Tryz.func27 (by kernel_rfl) fun W => ?_
 unfold s_IssueOf at h
 refine ab0 ?_
 refine W.r_seq ?_
 refine ab0 ?_
 obtain ⟨zt4, h, gt4⟩ := cutb_some h
 refine W.r_cut (fun (t4 : Unit) => ⟨[(4, .ptr 1 0 0)], [(1, some (.box [.d (D.i ((⟨0, (⟨(⟨0, 0, ([] : List UInt8)⟩ : Gx.Grid), [], [], 0⟩ : Gx.Puzzle), ([] : List UInt8), 0, 0⟩ : Gx.Issue).mNumber)), .d (D.i ((((⟨0, (⟨(⟨0, 0, ([] : List UInt8)⟩ : Gx.Grid), [], [], 0⟩ : Gx.Puzzle), ([] : List UInt8), 0, 0⟩ : Gx.Issue).mPuzzle).mGrid).mRows)), .d (D.i ((((⟨0, (⟨(⟨0, 0, ([] : List UInt8)⟩ : Gx.Grid), [], [], 0⟩ : Gx.Puzzle), ([] : List UInt8), 0, 0⟩ : Gx.Issue).mPuzzle).mGrid).mCols)), .d (D.s ((((⟨0, (⟨(⟨0, 0, ([] : List UInt8)⟩ : Gx.Grid), [], [], 0⟩ : Gx.Puzzle), ([] : List UInt8), 0, 0⟩ : Gx.Issue).mPuzzle).mGrid).mCells)), .d (D.sl 2 (List.map Gx.Clue.enc (((⟨0, (⟨(⟨0, 0, ([] : List UInt8)⟩ : Gx.Grid), [], [], 0⟩ : Gx.Puzzle), ([] : List UInt8), 0, 0⟩ : Gx.Issue).mPuzzle).mClues))), .d (D.sl 1 (List.map Gx.encI (((⟨0, (⟨(⟨0, 0, ([] : List UInt8)⟩ : Gx.Grid), [], [], 0⟩ : Gx.Puzzle), ([] : List UInt8), 0, 0⟩ : Gx.Issue).mPuzzle).mSeals))), .d (D.i (((⟨0, (⟨(⟨0, 0, ([] : List UInt8)⟩ : Gx.Grid), [], [], 0⟩ : Gx.Puzzle), ([] : List UInt8), 0, 0⟩ : Gx.Issue).mPuzzle).mSalt)), .d (D.s ((⟨0, (⟨(⟨0, 0, ([] : List UInt8)⟩ : Gx.Grid), [], [], 0⟩ : Gx.Puzzle), ([] : List UInt8), 0, 0⟩ : Gx.Issue).mFill)), .d (D.i ((⟨0, (⟨(⟨0, 0, ([] : List UInt8)⟩ : Gx.Grid), [], [], 0⟩ : Gx.Puzzle), ([] : List UInt8), 0, 0⟩ : Gx.Issue).mOpen)), .d (D.i ((⟨0, (⟨(⟨0, 0, ([] : List UInt8)⟩ : Gx.Grid), [], [], 0⟩ : Gx.Puzzle), ([] : List UInt8), 0, 0⟩ : Gx.Issue).mClose))]))], 1000⟩) (fun t => .nx t = zt4) ?_ ?_
 ·refine avb ?_
  refine loop_lp (fun (p1 : Int) => ⟨[(1, .d (D.i v1)), (2, .ptr 1 0 0), (4, .ptr 2 0 0), (6, .d (D.i p1))], [(1, some (.box [.d (D.sl 4 (List.map Gx.Listed.enc v0.mList)), .d (D.sl 2 (List.map Gx.Meaning.enc v0.mDict)), .d (D.i v0.mDesk.mGrid.mRows), .d (D.i v0.mDesk.mGrid.mCols), .d (D.s v0.mDesk.mGrid.mCells), .d (D.s v0.mDesk.mFill), .d (D.sl 2 (List.map Gx.Clue.enc v0.mDesk.mClues)), .d (D.i v0.mDesk.mVersion), .d (D.sl 10 (List.map Gx.Issue.enc v0.mIssues)), .d (D.sl 2 (List.map Gx.Used.enc v0.mUses)), .d (D.sl 5 (List.map Gx.Correction.enc v0.mCorrections)), .d (D.sl 4 (List.map Gx.Entry.enc v0.mEntries)), .d (D.i v0.mNow)])), (2, some (.box [.d (D.i ((⟨0, (⟨(⟨0, 0, ([] : List UInt8)⟩ : Gx.Grid), [], [], 0⟩ : Gx.Puzzle), ([] : List UInt8), 0, 0⟩ : Gx.Issue).mNumber)), .d (D.i ((((⟨0, (⟨(⟨0, 0, ([] : List UInt8)⟩ : Gx.Grid), [], [], 0⟩ : Gx.Puzzle), ([] : List UInt8), 0, 0⟩ : Gx.Issue).mPuzzle).mGrid).mRows)), .d (D.i ((((⟨0, (⟨(⟨0, 0, ([] : List UInt8)⟩ : Gx.Grid), [], [], 0⟩ : Gx.Puzzle), ([] : List UInt8), 0, 0⟩ : Gx.Issue).mPuzzle).mGrid).mCols)), .d (D.s ((((⟨0, (⟨(⟨0, 0, ([] : List UInt8)⟩ : Gx.Grid), [], [], 0⟩ : Gx.Puzzle), ([] : List UInt8), 0, 0⟩ : Gx.Issue).mPuzzle).mGrid).mCells)), .d (D.sl 2 (List.map Gx.Clue.enc (((⟨0, (⟨(⟨0, 0, ([] : List UInt8)⟩ : Gx.Grid), [], [], 0⟩ : Gx.Puzzle), ([] : List UInt8), 0, 0⟩ : Gx.Issue).mPuzzle).mClues))), .d (D.sl 1 (List.map Gx.encI (((⟨0, (⟨(⟨0, 0, ([] : List UInt8)⟩ : Gx.Grid), [], [], 0⟩ : Gx.Puzzle), ([] : List UInt8), 0, 0⟩ : Gx.Issue).mPuzzle).mSeals))), .d (D.i (((⟨0, (⟨(⟨0, 0, ([] : List UInt8)⟩ : Gx.Grid), [], [], 0⟩ : Gx.Puzzle), ([] : List UInt8), 0, 0⟩ : Gx.Issue).mPuzzle).mSalt)), .d (D.s ((⟨0, (⟨(⟨0, 0, ([] : List UInt8)⟩ : Gx.Grid), [], [], 0⟩ : Gx.Puzzle), ([] : List UInt8), 0, 0⟩ : Gx.Issue).mFill)), .d (D.i ((⟨0, (⟨(⟨0, 0, ([] : List UInt8)⟩ : Gx.Grid), [], [], 0⟩ : Gx.Puzzle), ([] : List UInt8), 0, 0⟩ : Gx.Issue).mOpen)), .d (D.i ((⟨0, (⟨(⟨0, 0, ([] : List UInt8)⟩ : Gx.Grid), [], [], 0⟩ : Gx.Puzzle), ([] : List UInt8), 0, 0⟩ : Gx.Issue).mClose))]))], 1000⟩) h ?_ ?_
  ·exact weak_by
  intro np1 p1 yp1 h hfp1
  unfold s_IssueOf_L1 at h
  refine avb ?_
  refine lns (v0.mIssues.length : Int) ?_
  refine avb ?_
  refine brb h ?_ ?_<;>intro _ h
  ·refine idx_sel h (fun x1 hx1 h => ?_)
   refine avb ?_
   refine brb h ?_ ?_<;>intro _ h
   ·refine idx_sel h (fun x2 hx2 h => ?_)
    refine avb ?_
    refine plb ?_;refine call_sel (E := fun (x : Gx.Issue) => DV.agg (Gx.Issue.enc x)) h (fun x3 h1 => (s_l30Copy_ok N x2 h1)) (fun x3 hx3 h => ?_)
    refine avb ?_
    have h := finr hfp1 h
    have h := cutr gt4 h
    cases h;exact eq_by
   ·exact lbk hfp1 h
  ·have h := finr hfp1 h
   refine cut_at (()) (some_in h) ?_
   exact weak_by
 rintro t4 rfl
 have h : _ = some _ := gt4
 refine avb ?_
 cases h;exact eq_by

theorem s_IsOpen_ok (N : Nat) (v0 : Gx.Issue) (v1 : Int) {r : Bool} (h : s_IsOpen N v0 v1 = some r) : Pure Tryz.prog 151 [DV.agg (Gx.Issue.enc v0), DV.one (D.i v1)] (DV.one (D.b r)) := by
 refine pure_of_walk Tryz.tok Tryz.mixed Tryz.func151 (by kernel_rfl) fun W => ?_
 unfold s_IsOpen at h
 refine avb ?_
 refine brb h ?_ ?_<;>intro _ h
 ·cases h;exact eq_by
 ·cases h;exact eq_by

theorem s_IsEntry_ok (N : Nat) (v0 : Gx.Entry) (v1 : Gx.Issue) {r : Bool} (h : s_IsEntry N v0 v1 = some r) : Pure Tryz.prog 88 [DV.agg (Gx.Entry.enc v0), DV.agg (Gx.Issue.enc v1)] (DV.one (D.b r)) := by
 refine pure_of_walk Tryz.tok Tryz.mixed Tryz.func88 (by kernel_rfl) fun W => ?_
 unfold s_IsEntry at h
 refine avb ?_
 refine plb ?_;refine call_sel (E := fun (x : Bool) => DV.one (D.b x)) h (fun x1 h1 => (s_l1In_ok N v0.mPlayer 1 99 h1)) (fun x1 hx1 h => ?_)
 refine avb ?_
 refine brb h ?_ ?_<;>intro _ h
 ·refine brb h ?_ ?_<;>intro _ h
  ·refine plb ?_;refine call_sel (E := fun (x : Bool) => DV.one (D.b x)) h (fun x2 h1 => (s_IsIssue_ok N v1 h1)) (fun x2 hx2 h => ?_)
   refine avb ?_
   refine brb h ?_ ?_<;>intro _ h
   ·refine plb ?_;refine call_sel (E := fun (x : Bool) => DV.one (D.b x)) h (fun x3 h1 => (s_IsOpen_ok N v1 v0.mTick h1)) (fun x3 hx3 h => ?_)
    refine avb ?_
    refine brb h ?_ ?_<;>intro _ h
    ·refine plb ?_;refine call_sel (E := fun (x : Bool) => DV.one (D.b x)) h (fun x4 h1 => (s_IsFill_ok N v1.mPuzzle.mGrid v0.mFill h1)) (fun x4 hx4 h => ?_)
     refine avb ?_
     cases h;exact eq_by
    ·cases h;exact eq_by
   ·cases h;exact eq_by
  ·cases h;exact eq_by
 ·cases h;exact eq_by

theorem s_l29Before_ok (N : Nat) (v0 : Gx.Used) (v1 : Gx.Used) {r : Bool} (h : s_l29Before N v0 v1 = some r) : Pure Tryz.prog 170 [DV.agg (Gx.Used.enc v0), DV.agg (Gx.Used.enc v1)] (DV.one (D.b r)) := by
 refine pure_of_walk Tryz.tok Tryz.mixed Tryz.func170 (by kernel_rfl) fun W => ?_
 unfold s_l29Before at h
 refine avb ?_
 refine brb h ?_ ?_<;>intro _ h
 ·cases h;exact eq_by
 ·refine brb h ?_ ?_<;>intro _ h
  ·refine plb ?_;refine call_sel (E := fun (x : Bool) => DV.one (D.b x)) h (fun x1 h1 => (s_BeforeWord_ok N v0.mWord v1.mWord h1)) (fun x1 hx1 h => ?_)
   refine avb ?_
   cases h;exact eq_by
  ·cases h;exact eq_by

theorem s_AreUses_ok (N : Nat) (v0 : List (Gx.Used)) {r : Bool} (h : s_AreUses N v0 = some r) : Pure Tryz.prog 117 [DV.one (D.sl 2 (List.map Gx.Used.enc v0))] (DV.one (D.b r)) := by
 refine pure_of_walk Tryz.tok Tryz.mixed Tryz.func117 (by kernel_rfl) fun W => ?_
 unfold s_AreUses at h
 refine ab0 ?_
 refine W.r_seq ?_
 refine ab0 ?_
 obtain ⟨zt8, h, gt8⟩ := cutb_some h
 refine W.r_cut (fun (t8 : Unit) => ⟨[(0, .d (D.sl 2 (List.map Gx.Used.enc v0)))], [], 1000⟩) (fun t => .nx t = zt8) ?_ ?_
 ·refine avb ?_
  refine loop_lp (fun (p1 : Int) => ⟨[(0, .d (D.sl 2 (List.map Gx.Used.enc v0))), (3, .d (D.i p1))], [], 1000⟩) h ?_ ?_
  ·exact weak_by
  intro np1 p1 yp1 h hfp1
  unfold s_AreUses_L1 at h
  refine avb ?_
  refine lns (v0.length : Int) ?_
  refine avb ?_
  refine brb h ?_ ?_<;>intro _ h
  ·refine idx_sel h (fun x1 hx1 h => ?_)
   refine avb ?_
   refine plb ?_;refine call_sel (E := fun (x : Bool) => DV.one (D.b x)) h (fun x2 h1 => (s_IsWord_ok N x1.mWord h1)) (fun x2 hx2 h => ?_)
   refine avb ?_
   refine brb h ?_ ?_<;>intro _ h
   ·have h := finr hfp1 h
    have h := cutr gt8 h
    cases h;exact eq_by
   ·refine idx_sel h (fun x3 hx3 h => ?_)
    refine avb ?_
    refine plb ?_;refine call_sel (E := fun (x : Bool) => DV.one (D.b x)) h (fun x4 h1 => (s_l1In_ok N x3.mIssue 1 999 h1)) (fun x4 hx4 h => ?_)
    refine avb ?_
    refine brb h ?_ ?_<;>intro _ h
    ·have h := finr hfp1 h
     have h := cutr gt8 h
     cases h;exact eq_by
    ·refine brb h ?_ ?_<;>intro _ h
     ·refine idx_sel h (fun x5 hx5 h => ?_)
      refine avb ?_
      refine idx_sel h (fun x6 hx6 h => ?_)
      refine avb ?_
      refine plb ?_;refine call_sel (E := fun (x : Bool) => DV.one (D.b x)) h (fun x7 h1 => (s_l29Before_ok N x5 x6 h1)) (fun x7 hx7 h => ?_)
      refine avb ?_
      refine brb h ?_ ?_<;>intro _ h
      ·have h := finr hfp1 h
       have h := cutr gt8 h
       cases h;exact eq_by
      ·exact lbk hfp1 h
     ·exact lbk hfp1 h
  ·have h := finr hfp1 h
   refine cut_at (()) (some_in h) ?_
   exact weak_by
 rintro t8 rfl
 have h : _ = some _ := gt8
 refine avb ?_
 refine lns (v0.length : Int) ?_
 refine avb ?_
 cases h;exact eq_by

theorem s_AreCorrections_ok (N : Nat) (v0 : List (Gx.Correction)) {r : Bool} (h : s_AreCorrections N v0 = some r) : Pure Tryz.prog 118 [DV.one (D.sl 5 (List.map Gx.Correction.enc v0))] (DV.one (D.b r)) := by
 refine pure_of_walk Tryz.tok Tryz.mixed Tryz.func118 (by kernel_rfl) fun W => ?_
 unfold s_AreCorrections at h
 refine ab0 ?_
 refine W.r_seq ?_
 refine ab0 ?_
 obtain ⟨zt7, h, gt7⟩ := cutb_some h
 refine W.r_cut (fun (t7 : Unit) => ⟨[(0, .d (D.sl 5 (List.map Gx.Correction.enc v0)))], [], 1000⟩) (fun t => .nx t = zt7) ?_ ?_
 ·refine avb ?_
  refine loop_lp (fun (p1 : Int) => ⟨[(0, .d (D.sl 5 (List.map Gx.Correction.enc v0))), (3, .d (D.i p1))], [], 1000⟩) h ?_ ?_
  ·exact weak_by
  intro np1 p1 yp1 h hfp1
  unfold s_AreCorrections_L1 at h
  refine avb ?_
  refine lns (v0.length : Int) ?_
  refine avb ?_
  refine brb h ?_ ?_<;>intro _ h
  ·refine idx_sel h (fun x1 hx1 h => ?_)
   refine avb ?_
   refine plb ?_;refine call_sel (E := fun (x : Bool) => DV.one (D.b x)) h (fun x2 h1 => (s_l1In_ok N x1.mIssue 1 999 h1)) (fun x2 hx2 h => ?_)
   refine avb ?_
   refine brb h ?_ ?_<;>intro _ h
   ·have h := finr hfp1 h
    have h := cutr gt7 h
    cases h;exact eq_by
   ·refine plb ?_;refine call_sel (E := fun (x : Bool) => DV.one (D.b x)) h (fun x3 h1 => (s_l1In_ok N x1.mSlot 0 99 h1)) (fun x3 hx3 h => ?_)
    refine avb ?_
    refine brb h ?_ ?_<;>intro _ h
    ·have h := finr hfp1 h
     have h := cutr gt7 h
     cases h;exact eq_by
    ·refine plb ?_;refine call_sel (E := fun (x : Bool) => DV.one (D.b x)) h (fun x4 h1 => (s_IsClue_ok N x1.mClue h1)) (fun x4 hx4 h => ?_)
     refine avb ?_
     refine brb h ?_ ?_<;>intro _ h
     ·have h := finr hfp1 h
      have h := cutr gt7 h
      cases h;exact eq_by
     ·refine plb ?_;refine call_sel (E := fun (x : Bool) => DV.one (D.b x)) h (fun x5 h1 => (s_l1In_ok N x1.mTick 0 1000 h1)) (fun x5 hx5 h => ?_)
      refine avb ?_
      refine brb h ?_ ?_<;>intro _ h
      ·have h := finr hfp1 h
       have h := cutr gt7 h
       cases h;exact eq_by
      ·refine brb h ?_ ?_<;>intro _ h
       ·refine idx_sel h (fun x6 hx6 h => ?_)
        refine avb ?_
        refine brb h ?_ ?_<;>intro _ h
        ·have h := finr hfp1 h
         have h := cutr gt7 h
         cases h;exact eq_by
        ·exact lbk hfp1 h
       ·exact lbk hfp1 h
  ·have h := finr hfp1 h
   refine cut_at (()) (some_in h) ?_
   exact weak_by
 rintro t7 rfl
 have h : _ = some _ := gt7
 refine avb ?_
 refine lns (v0.length : Int) ?_
 refine avb ?_
 cases h;exact eq_by

theorem s_l33Rest_ok (N : Nat) (v0 : Gx.House) {r : Bool} (h : s_l33Rest N v0 = some r) : Pure Tryz.prog 51 [DV.agg (Gx.House.enc v0)] (DV.one (D.b r)) := by
 refine pure_of_walk Tryz.tok Tryz.mixed Tryz.func51 (by kernel_rfl) fun W => ?_
 unfold s_l33Rest at h
 refine ab0 ?_
 refine W.r_seq ?_
 refine ab0 ?_
 obtain ⟨zt5, h, gt5⟩ := cutb_some h
 refine W.r_cut (fun (t5 : Unit) => ⟨[(1, .ptr 1 0 0)], [(1, some (.box [.d (D.sl 4 (List.map Gx.Listed.enc v0.mList)), .d (D.sl 2 (List.map Gx.Meaning.enc v0.mDict)), .d (D.i v0.mDesk.mGrid.mRows), .d (D.i v0.mDesk.mGrid.mCols), .d (D.s v0.mDesk.mGrid.mCells), .d (D.s v0.mDesk.mFill), .d (D.sl 2 (List.map Gx.Clue.enc v0.mDesk.mClues)), .d (D.i v0.mDesk.mVersion), .d (D.sl 10 (List.map Gx.Issue.enc v0.mIssues)), .d (D.sl 2 (List.map Gx.Used.enc v0.mUses)), .d (D.sl 5 (List.map Gx.Correction.enc v0.mCorrections)), .d (D.sl 4 (List.map Gx.Entry.enc v0.mEntries)), .d (D.i v0.mNow)]))], 1000⟩) (fun t => .nx t = zt5) ?_ ?_
 ·refine avb ?_
  refine loop_lp (fun (p1 : Int) => ⟨[(1, .ptr 1 0 0), (3, .d (D.i p1))], [(1, some (.box [.d (D.sl 4 (List.map Gx.Listed.enc v0.mList)), .d (D.sl 2 (List.map Gx.Meaning.enc v0.mDict)), .d (D.i v0.mDesk.mGrid.mRows), .d (D.i v0.mDesk.mGrid.mCols), .d (D.s v0.mDesk.mGrid.mCells), .d (D.s v0.mDesk.mFill), .d (D.sl 2 (List.map Gx.Clue.enc v0.mDesk.mClues)), .d (D.i v0.mDesk.mVersion), .d (D.sl 10 (List.map Gx.Issue.enc v0.mIssues)), .d (D.sl 2 (List.map Gx.Used.enc v0.mUses)), .d (D.sl 5 (List.map Gx.Correction.enc v0.mCorrections)), .d (D.sl 4 (List.map Gx.Entry.enc v0.mEntries)), .d (D.i v0.mNow)]))], 1000⟩) h ?_ ?_
  ·exact weak_by
  intro np1 p1 yp1 h hfp1
  unfold s_l33Rest_L1 at h
  refine avb ?_
  refine lns (v0.mCorrections.length : Int) ?_
  refine avb ?_
  refine brb h ?_ ?_<;>intro _ h
  ·refine idx_sel h (fun x1 hx1 h => ?_)
   refine avb ?_
   refine plb ?_;refine call_sel (E := fun (x : Gx.Issue × Bool) => DV.tup [DV.agg (Gx.Issue.enc x.1), DV.one (D.b x.2)]) h (fun x2 h1 => (s_IssueOf_ok N v0 x1.mIssue h1)) (fun x2 hx2 h => ?_)
   refine avb ?_
   refine brb h ?_ ?_<;>intro _ h
   ·have h := finr hfp1 h
    have h := cutr gt5 h
    cases h;exact eq_by
   ·refine idx_sel h (fun x3 hx3 h => ?_)
    refine avb ?_
    refine lns (x2.1.mPuzzle.mClues.length : Int) ?_
    refine avb ?_
    refine brb h ?_ ?_<;>intro _ h
    ·have h := finr hfp1 h
     have h := cutr gt5 h
     cases h;exact eq_by
    ·refine idx_sel h (fun x4 hx4 h => ?_)
     refine avb ?_
     refine brb h ?_ ?_<;>intro _ h
     ·have h := finr hfp1 h
      have h := cutr gt5 h
      cases h;exact eq_by
     ·exact lbk hfp1 h
  ·have h := finr hfp1 h
   refine cut_at (()) (some_in h) ?_
   exact weak_by
 rintro t5 rfl
 have h : _ = some _ := gt5
 refine ab0 ?_
 obtain ⟨zt11, h, gt11⟩ := cutb_some h
 refine W.r_cut (fun (t11 : Unit) => ⟨[(1, .ptr 1 0 0)], [(1, some (.box [.d (D.sl 4 (List.map Gx.Listed.enc v0.mList)), .d (D.sl 2 (List.map Gx.Meaning.enc v0.mDict)), .d (D.i v0.mDesk.mGrid.mRows), .d (D.i v0.mDesk.mGrid.mCols), .d (D.s v0.mDesk.mGrid.mCells), .d (D.s v0.mDesk.mFill), .d (D.sl 2 (List.map Gx.Clue.enc v0.mDesk.mClues)), .d (D.i v0.mDesk.mVersion), .d (D.sl 10 (List.map Gx.Issue.enc v0.mIssues)), .d (D.sl 2 (List.map Gx.Used.enc v0.mUses)), .d (D.sl 5 (List.map Gx.Correction.enc v0.mCorrections)), .d (D.sl 4 (List.map Gx.Entry.enc v0.mEntries)), .d (D.i v0.mNow)]))], 1000⟩) (fun t => .nx t = zt11) ?_ ?_
 ·refine avb ?_
  refine loop_lp (fun (p2 : Int) => ⟨[(1, .ptr 1 0 0), (6, .d (D.i p2))], [(1, some (.box [.d (D.sl 4 (List.map Gx.Listed.enc v0.mList)), .d (D.sl 2 (List.map Gx.Meaning.enc v0.mDict)), .d (D.i v0.mDesk.mGrid.mRows), .d (D.i v0.mDesk.mGrid.mCols), .d (D.s v0.mDesk.mGrid.mCells), .d (D.s v0.mDesk.mFill), .d (D.sl 2 (List.map Gx.Clue.enc v0.mDesk.mClues)), .d (D.i v0.mDesk.mVersion), .d (D.sl 10 (List.map Gx.Issue.enc v0.mIssues)), .d (D.sl 2 (List.map Gx.Used.enc v0.mUses)), .d (D.sl 5 (List.map Gx.Correction.enc v0.mCorrections)), .d (D.sl 4 (List.map Gx.Entry.enc v0.mEntries)), .d (D.i v0.mNow)]))], 1000⟩) h ?_ ?_
  ·exact weak_by
  intro np2 p2 yp2 h hfp2
  unfold s_l33Rest_L2 at h
  refine avb ?_
  refine lns (v0.mEntries.length : Int) ?_
  refine avb ?_
  refine brb h ?_ ?_<;>intro _ h
  ·refine idx_sel h (fun x6 hx6 h => ?_)
   refine avb ?_
   refine plb ?_;refine call_sel (E := fun (x : Gx.Issue × Bool) => DV.tup [DV.agg (Gx.Issue.enc x.1), DV.one (D.b x.2)]) h (fun x7 h1 => (s_IssueOf_ok N v0 x6.mIssue h1)) (fun x7 hx7 h => ?_)
   refine avb ?_
   refine brb h ?_ ?_<;>intro _ h
   ·have h := finr hfp2 h
    have h := cutr gt11 h
    cases h;exact eq_by
   ·refine idx_sel h (fun x8 hx8 h => ?_)
    refine avb ?_
    refine plb ?_;refine call_sel (E := fun (x : Bool) => DV.one (D.b x)) h (fun x9 h1 => (s_IsEntry_ok N x8 x7.1 h1)) (fun x9 hx9 h => ?_)
    refine avb ?_
    refine brb h ?_ ?_<;>intro _ h
    ·have h := finr hfp2 h
     have h := cutr gt11 h
     cases h;exact eq_by
    ·refine idx_sel h (fun x10 hx10 h => ?_)
     refine avb ?_
     refine brb h ?_ ?_<;>intro _ h
     ·have h := finr hfp2 h
      have h := cutr gt11 h
      cases h;exact eq_by
     ·exact lbk hfp2 h
  ·have h := finr hfp2 h
   refine cut_at (()) (some_in h) ?_
   exact weak_by
 rintro t11 rfl
 have h : _ = some _ := gt11
 refine avb ?_
 refine plb ?_;refine call_sel (E := fun (x : Bool) => DV.one (D.b x)) h (fun x12 h1 => (s_AreUses_ok N v0.mUses h1)) (fun x12 hx12 h => ?_)
 refine avb ?_
 refine brb h ?_ ?_<;>intro _ h
 ·refine plb ?_;refine call_sel (E := fun (x : Bool) => DV.one (D.b x)) h (fun x13 h1 => (s_AreCorrections_ok N v0.mCorrections h1)) (fun x13 hx13 h => ?_)
  refine avb ?_
  refine brb h ?_ ?_<;>intro _ h
  ·refine lns (v0.mEntries.length : Int) ?_
   refine avb ?_
   cases h;exact eq_by
  ·cases h;exact eq_by
 ·cases h;exact eq_by

theorem s_l27Zero_ok (N : Nat) (v0 : Gx.Clue) {r : Bool} (h : s_l27Zero N v0 = some r) : Pure Tryz.prog 112 [DV.agg (Gx.Clue.enc v0)] (DV.one (D.b r)) := by
 refine pure_of_walk Tryz.tok Tryz.mixed Tryz.func112 (by kernel_rfl) fun W => ?_
 unfold s_l27Zero at h
 refine avb ?_
 refine brb h ?_ ?_<;>intro _ h
 ·refine lns (v0.mPlay.length : Int) ?_
  refine avb ?_
  cases h;exact eq_by
 ·cases h;exact eq_by

theorem s_IsDraft_ok (N : Nat) (v0 : Gx.Draft) {r : Bool} (h : s_IsDraft N v0 = some r) : Pure Tryz.prog 50 [DV.agg (Gx.Draft.enc v0)] (DV.one (D.b r)) := by
 refine pure_of_walk Tryz.tok Tryz.mixed Tryz.func50 (by kernel_rfl) fun W => ?_
 unfold s_IsDraft at h
 refine ab0 ?_
 refine W.r_seq ?_
 refine ab0 ?_
 obtain ⟨zt5, h, gt5⟩ := cutb_some h
 refine W.r_cut (fun (t5 : Unit) => ⟨[(1, .ptr 1 0 0)], [(1, some (.box [.d (D.i v0.mGrid.mRows), .d (D.i v0.mGrid.mCols), .d (D.s v0.mGrid.mCells), .d (D.s v0.mFill), .d (D.sl 2 (List.map Gx.Clue.enc v0.mClues)), .d (D.i v0.mVersion)]))], 1000⟩) (fun t => .nx t = zt5) ?_ ?_
 ·refine avb ?_
  refine loop_lp (fun (p1 : Int) => ⟨[(1, .ptr 1 0 0), (3, .d (D.i p1))], [(1, some (.box [.d (D.i v0.mGrid.mRows), .d (D.i v0.mGrid.mCols), .d (D.s v0.mGrid.mCells), .d (D.s v0.mFill), .d (D.sl 2 (List.map Gx.Clue.enc v0.mClues)), .d (D.i v0.mVersion)]))], 1000⟩) h ?_ ?_
  ·exact weak_by
  intro np1 p1 yp1 h hfp1
  unfold s_IsDraft_L1 at h
  refine avb ?_
  refine lns (v0.mClues.length : Int) ?_
  refine avb ?_
  refine brb h ?_ ?_<;>intro _ h
  ·refine idx_sel h (fun x1 hx1 h => ?_)
   refine avb ?_
   refine plb ?_;refine call_sel (E := fun (x : Bool) => DV.one (D.b x)) h (fun x2 h1 => (s_l27Zero_ok N x1 h1)) (fun x2 hx2 h => ?_)
   refine avb ?_
   refine brb h ?_ ?_<;>intro _ h
   ·refine idx_sel h (fun x3 hx3 h => ?_)
    refine avb ?_
    refine plb ?_;refine call_sel (E := fun (x : Bool) => DV.one (D.b x)) h (fun x4 h1 => (s_IsClue_ok N x3 h1)) (fun x4 hx4 h => ?_)
    refine avb ?_
    refine brb h ?_ ?_<;>intro _ h
    ·have h := finr hfp1 h
     have h := cutr gt5 h
     cases h;exact eq_by
    ·exact lbk hfp1 h
   ·exact lbk hfp1 h
  ·have h := finr hfp1 h
   refine cut_at (()) (some_in h) ?_
   exact weak_by
 rintro t5 rfl
 have h : _ = some _ := gt5
 refine avb ?_
 refine plb ?_;refine call_sel (E := fun (x : Int) => DV.one (D.i x)) h (fun x6 h1 => (s_FormOf_ok N v0.mGrid h1)) (fun x6 hx6 h => ?_)
 refine avb ?_
 refine brb h ?_ ?_<;>intro _ h
 ·refine plb ?_;refine call_sel (E := fun (x : Bool) => DV.one (D.b x)) h (fun x7 h1 => (s_IsFill_ok N v0.mGrid v0.mFill h1)) (fun x7 hx7 h => ?_)
  refine avb ?_
  refine brb h ?_ ?_<;>intro _ h
  ·refine lns (v0.mClues.length : Int) ?_
   refine avb ?_
   refine plb ?_;refine call_sel (E := fun (x : (List (Gx.Slot))) => DV.one (D.sl 4 (List.map Gx.Slot.enc x))) h (fun x8 h1 => (s_SlotsOf_ok N v0.mGrid h1)) (fun x8 hx8 h => ?_)
   refine avb ?_
   refine lns (x8.length : Int) ?_
   refine avb ?_
   refine brb h ?_ ?_<;>intro _ h
   ·refine plb ?_;refine call_sel (E := fun (x : Bool) => DV.one (D.b x)) h (fun x9 h1 => (s_l1In_ok N v0.mVersion 1 9999 h1)) (fun x9 hx9 h => ?_)
    refine avb ?_
    cases h;exact eq_by
   ·cases h;exact eq_by
  ·cases h;exact eq_by
 ·cases h;exact eq_by

theorem s_IsHouse_ok (N : Nat) (v0 : Gx.House) {r : Bool} (h : s_IsHouse N v0 = some r) : Pure Tryz.prog 14 [DV.agg (Gx.House.enc v0)] (DV.one (D.b r)) := by
 refine pure_of_walk Tryz.tok Tryz.mixed Tryz.func14 (by kernel_rfl) fun W => ?_
 unfold s_IsHouse at h
 refine ab0 ?_
 refine W.r_seq ?_
 refine ab0 ?_
 obtain ⟨zt4, h, gt4⟩ := cutb_some h
 refine W.r_cut (fun (t4 : Unit) => ⟨[(1, .ptr 1 0 0)], [(1, some (.box [.d (D.sl 4 (List.map Gx.Listed.enc v0.mList)), .d (D.sl 2 (List.map Gx.Meaning.enc v0.mDict)), .d (D.i v0.mDesk.mGrid.mRows), .d (D.i v0.mDesk.mGrid.mCols), .d (D.s v0.mDesk.mGrid.mCells), .d (D.s v0.mDesk.mFill), .d (D.sl 2 (List.map Gx.Clue.enc v0.mDesk.mClues)), .d (D.i v0.mDesk.mVersion), .d (D.sl 10 (List.map Gx.Issue.enc v0.mIssues)), .d (D.sl 2 (List.map Gx.Used.enc v0.mUses)), .d (D.sl 5 (List.map Gx.Correction.enc v0.mCorrections)), .d (D.sl 4 (List.map Gx.Entry.enc v0.mEntries)), .d (D.i v0.mNow)]))], 1000⟩) (fun t => .nx t = zt4) ?_ ?_
 ·refine avb ?_
  refine loop_lp (fun (p1 : Int) => ⟨[(1, .ptr 1 0 0), (3, .d (D.i p1))], [(1, some (.box [.d (D.sl 4 (List.map Gx.Listed.enc v0.mList)), .d (D.sl 2 (List.map Gx.Meaning.enc v0.mDict)), .d (D.i v0.mDesk.mGrid.mRows), .d (D.i v0.mDesk.mGrid.mCols), .d (D.s v0.mDesk.mGrid.mCells), .d (D.s v0.mDesk.mFill), .d (D.sl 2 (List.map Gx.Clue.enc v0.mDesk.mClues)), .d (D.i v0.mDesk.mVersion), .d (D.sl 10 (List.map Gx.Issue.enc v0.mIssues)), .d (D.sl 2 (List.map Gx.Used.enc v0.mUses)), .d (D.sl 5 (List.map Gx.Correction.enc v0.mCorrections)), .d (D.sl 4 (List.map Gx.Entry.enc v0.mEntries)), .d (D.i v0.mNow)]))], 1000⟩) h ?_ ?_
  ·exact weak_by
  intro np1 p1 yp1 h hfp1
  unfold s_IsHouse_L1 at h
  refine avb ?_
  refine lns (v0.mIssues.length : Int) ?_
  refine avb ?_
  refine brb h ?_ ?_<;>intro _ h
  ·refine idx_sel h (fun x1 hx1 h => ?_)
   refine avb ?_
   refine plb ?_;refine call_sel (E := fun (x : Bool) => DV.one (D.b x)) h (fun x2 h1 => (s_IsIssue_ok N x1 h1)) (fun x2 hx2 h => ?_)
   refine avb ?_
   refine brb h ?_ ?_<;>intro _ h
   ·have h := finr hfp1 h
    have h := cutr gt4 h
    cases h;exact eq_by
   ·refine idx_sel h (fun x3 hx3 h => ?_)
    refine avb ?_
    refine brb h ?_ ?_<;>intro _ h
    ·have h := finr hfp1 h
     have h := cutr gt4 h
     cases h;exact eq_by
    ·exact lbk hfp1 h
  ·have h := finr hfp1 h
   refine cut_at (()) (some_in h) ?_
   exact weak_by
 rintro t4 rfl
 have h : _ = some _ := gt4
 refine avb ?_
 refine plb ?_;refine call_sel (E := fun (x : Bool) => DV.one (D.b x)) h (fun x5 h1 => (s_IsList_ok N v0.mList h1)) (fun x5 hx5 h => ?_)
 refine avb ?_
 refine brb h ?_ ?_<;>intro _ h
 ·refine plb ?_;refine call_sel (E := fun (x : Bool) => DV.one (D.b x)) h (fun x6 h1 => (s_IsDictionary_ok N v0.mDict h1)) (fun x6 hx6 h => ?_)
  refine avb ?_
  refine brb h ?_ ?_<;>intro _ h
  ·refine plb ?_;refine call_sel (E := fun (x : Bool) => DV.one (D.b x)) h (fun x7 h1 => (s_l33Zero_ok N v0.mDesk h1)) (fun x7 hx7 h => ?_)
   refine avb ?_
   refine brb h ?_ ?_<;>intro _ h
   ·refine lns (v0.mIssues.length : Int) ?_
    refine avb ?_
    refine brb h ?_ ?_<;>intro _ h
    ·refine plb ?_;refine call_sel (E := fun (x : Bool) => DV.one (D.b x)) h (fun x8 h1 => (s_l33Rest_ok N v0 h1)) (fun x8 hx8 h => ?_)
     refine avb ?_
     refine brb h ?_ ?_<;>intro _ h
     ·refine plb ?_;refine call_sel (E := fun (x : Bool) => DV.one (D.b x)) h (fun x9 h1 => (s_l1In_ok N v0.mNow 0 1000 h1)) (fun x9 hx9 h => ?_)
      refine avb ?_
      cases h;exact eq_by
     ·cases h;exact eq_by
    ·cases h;exact eq_by
   ·refine plb ?_;refine call_sel (E := fun (x : Bool) => DV.one (D.b x)) h (fun x10 h1 => (s_IsDraft_ok N v0.mDesk h1)) (fun x10 hx10 h => ?_)
    refine avb ?_
    refine brb h ?_ ?_<;>intro _ h
    ·refine lns (v0.mIssues.length : Int) ?_
     refine avb ?_
     refine brb h ?_ ?_<;>intro _ h
     ·refine plb ?_;refine call_sel (E := fun (x : Bool) => DV.one (D.b x)) h (fun x11 h1 => (s_l33Rest_ok N v0 h1)) (fun x11 hx11 h => ?_)
      refine avb ?_
      refine brb h ?_ ?_<;>intro _ h
      ·refine plb ?_;refine call_sel (E := fun (x : Bool) => DV.one (D.b x)) h (fun x12 h1 => (s_l1In_ok N v0.mNow 0 1000 h1)) (fun x12 hx12 h => ?_)
       refine avb ?_
       cases h;exact eq_by
      ·cases h;exact eq_by
     ·cases h;exact eq_by
    ·cases h;exact eq_by
  ·cases h;exact eq_by
 ·cases h;exact eq_by

theorem i_BeforeWord_ok (N : Nat) (v0 : List UInt8) (v1 : List UInt8) {r : Bool} (h : i_BeforeWord N v0 v1 = some r) : Pure Tryz.prog 119 [DV.one (D.s v0), DV.one (D.s v1)] (DV.one (D.b r)) := by
 refine pure_of_walk Tryz.tok Tryz.mixed Tryz.func119 (by kernel_rfl) fun W => ?_
 unfold i_BeforeWord at h
 refine avb ?_
 refine lns (v0.length : Int) ?_
 refine avb ?_
 refine lns (v1.length : Int) ?_
 refine avb ?_
 refine brb h ?_ ?_<;>intro _ h
 ·refine lns (v0.length : Int) ?_
  refine avb ?_
  refine lns (v1.length : Int) ?_
  refine avb ?_
  cases h;exact eq_by
 ·cases h;exact eq_by

theorem i_InRange_ok (N : Nat) (v0 : Int) (v1 : Int) (v2 : Int) {r : Bool} (h : i_InRange N v0 v1 v2 = some r) : Pure Tryz.prog 60 [DV.one (D.i v0), DV.one (D.i v1), DV.one (D.i v2)] (DV.one (D.b r)) := by
 refine pure_of_walk Tryz.tok Tryz.mixed Tryz.func60 (by kernel_rfl) fun W => ?_
 unfold i_InRange at h
 refine avb ?_
 refine brb h ?_ ?_<;>intro _ h
 ·cases h;exact eq_by
 ·cases h;exact eq_by

theorem i_isLetter_ok (N : Nat) (v0 : Int) {r : Bool} (h : i_isLetter N v0 = some r) : Pure Tryz.prog 171 [DV.one (D.u8 v0)] (DV.one (D.b r)) := by
 refine pure_of_walk Tryz.tok Tryz.mixed Tryz.func171 (by kernel_rfl) fun W => ?_
 unfold i_isLetter at h
 refine avb ?_
 refine brb h ?_ ?_<;>intro _ h
 ·cases h;exact eq_by
 ·cases h;exact eq_by

theorem i_IsWord_ok (N : Nat) (v0 : List UInt8) {r : Bool} (h : i_IsWord N v0 = some r) : Pure Tryz.prog 120 [DV.one (D.s v0)] (DV.one (D.b r)) := by
 refine pure_of_walk Tryz.tok Tryz.mixed Tryz.func120 (by kernel_rfl) fun W => ?_
 unfold i_IsWord at h
 refine avb ?_
 refine lns (v0.length : Int) ?_
 refine avb ?_
 refine plb ?_;refine call_sel (E := fun (x : Bool) => DV.one (D.b x)) h (fun x1 h1 => (i_InRange_ok N (v0.length : Int) 1 8 h1)) (fun x1 hx1 h => ?_)
 refine avb ?_
 refine br_sel h (fun _ h => ?_) (fun _ h => ?_)
 ·refine avb ?_
  cases h;exact eq_by
 ·refine ab0 ?_
  obtain ⟨zt3, h, gt3⟩ := cutb_some h
  refine W.r_cut (fun (t3 : Unit) => ⟨[], [], 1000⟩) (fun t => .nx t = zt3) ?_ ?_
  ·refine avb ?_
   refine lns (v0.length : Int) ?_
   refine avb ?_
   refine loop_lp (fun (p1 : Int) => ⟨[(0, .d (D.s v0)), (9, .d (D.i (v0.length : Int))), (10, .d (D.i p1))], [], 1000⟩) h ?_ ?_
   ·exact weak_by
   intro np1 p1 yp1 h hfp1
   unfold i_IsWord_L1 at h
   refine avb ?_
   refine brb h ?_ ?_<;>intro _ h
   ·refine chk_sel h (fun q => q) (fun h => ?_)
    refine avb ?_
    refine plb ?_;refine call_sel (E := fun (x : Bool) => DV.one (D.b x)) h (fun x2 h1 => (i_isLetter_ok N (byteI v0 p1) h1)) (fun x2 hx2 h => ?_)
    refine avb ?_
    refine brb h ?_ ?_<;>intro _ h
    ·have h := finr hfp1 h
     have h := cutr gt3 h
     cases h;exact eq_by
    ·exact lbk hfp1 h
   ·have h := finr hfp1 h
    refine cut_at (()) (some_in h) ?_
    exact weak_by
  rintro t3 rfl
  have h : _ = some _ := gt3
  refine avb ?_
  cases h;exact eq_by

theorem i_IsList_ok (N : Nat) (v0 : List (Gx.Listed)) {r : Bool} (h : i_IsList N v0 = some r) : Pure Tryz.prog 53 [DV.one (D.sl 4 (List.map Gx.Listed.enc v0))] (DV.one (D.b r)) := by
 refine pure_of_walk Tryz.tok Tryz.mixed Tryz.func53 (by kernel_rfl) fun W => ?_
 unfold i_IsList at h
 refine avb ?_
 refine lns (v0.length : Int) ?_
 refine avb ?_
 refine br_sel h (fun _ h => ?_) (fun _ h => ?_)
 ·refine avb ?_
  cases h;exact eq_by
 ·refine ab0 ?_
  obtain ⟨zt10, h, gt10⟩ := cutb_some h
  refine W.r_cut (fun (t10 : Unit) => ⟨[], [], 1000⟩) (fun t => .nx t = zt10) ?_ ?_
  ·refine avb ?_
   refine lns (v0.length : Int) ?_
   refine avb ?_
   refine loop_lp (fun (p1 : Int) => ⟨[(0, .d (D.sl 4 (List.map Gx.Listed.enc v0))), (8, .d (D.sl 4 (List.map Gx.Listed.enc v0))), (9, .d (D.i (v0.length : Int))), (10, .d (D.i p1))], [], 1000⟩) h ?_ ?_
   ·exact weak_by
   intro np1 p1 yp1 h hfp1
   unfold i_IsList_L1 at h
   refine avb ?_
   refine brb h ?_ ?_<;>intro _ h
   ·refine idx_sel h (fun x1 hx1 h => ?_)
    refine avb ?_
    refine brb h ?_ ?_<;>intro _ h
    ·refine idx_sel h (fun x2 hx2 h => ?_)
     refine avb ?_
     refine plb ?_;refine call_sel (E := fun (x : Bool) => DV.one (D.b x)) h (fun x3 h1 => (i_BeforeWord_ok N x2.mWord x1.mWord h1)) (fun x3 hx3 h => ?_)
     refine avb ?_
     refine brb h ?_ ?_<;>intro _ h
     ·have h := finr hfp1 h
      have h := cutr gt10 h
      cases h;exact eq_by
     ·refine plb ?_;refine call_sel (E := fun (x : Bool) => DV.one (D.b x)) h (fun x4 h1 => (i_IsWord_ok N x1.mWord h1)) (fun x4 hx4 h => ?_)
      refine avb ?_
      refine brb h ?_ ?_<;>intro _ h
      ·have h := finr hfp1 h
       have h := cutr gt10 h
       cases h;exact eq_by
      ·refine plb ?_;refine call_sel (E := fun (x : Bool) => DV.one (D.b x)) h (fun x5 h1 => (i_InRange_ok N x1.mFrom 0 x1.mUntil h1)) (fun x5 hx5 h => ?_)
       refine avb ?_
       refine brb h ?_ ?_<;>intro _ h
       ·have h := finr hfp1 h
        have h := cutr gt10 h
        cases h;exact eq_by
       ·refine brb h ?_ ?_<;>intro _ h
        ·have h := finr hfp1 h
         have h := cutr gt10 h
         cases h;exact eq_by
        ·refine plb ?_;refine call_sel (E := fun (x : Bool) => DV.one (D.b x)) h (fun x6 h1 => (i_InRange_ok N x1.mScore 0 99 h1)) (fun x6 hx6 h => ?_)
         refine avb ?_
         refine brb h ?_ ?_<;>intro _ h
         ·have h := finr hfp1 h
          have h := cutr gt10 h
          cases h;exact eq_by
         ·exact lbk hfp1 h
    ·refine plb ?_;refine call_sel (E := fun (x : Bool) => DV.one (D.b x)) h (fun x7 h1 => (i_IsWord_ok N x1.mWord h1)) (fun x7 hx7 h => ?_)
     refine avb ?_
     refine brb h ?_ ?_<;>intro _ h
     ·have h := finr hfp1 h
      have h := cutr gt10 h
      cases h;exact eq_by
     ·refine plb ?_;refine call_sel (E := fun (x : Bool) => DV.one (D.b x)) h (fun x8 h1 => (i_InRange_ok N x1.mFrom 0 x1.mUntil h1)) (fun x8 hx8 h => ?_)
      refine avb ?_
      refine brb h ?_ ?_<;>intro _ h
      ·have h := finr hfp1 h
       have h := cutr gt10 h
       cases h;exact eq_by
      ·refine brb h ?_ ?_<;>intro _ h
       ·have h := finr hfp1 h
        have h := cutr gt10 h
        cases h;exact eq_by
       ·refine plb ?_;refine call_sel (E := fun (x : Bool) => DV.one (D.b x)) h (fun x9 h1 => (i_InRange_ok N x1.mScore 0 99 h1)) (fun x9 hx9 h => ?_)
        refine avb ?_
        refine brb h ?_ ?_<;>intro _ h
        ·have h := finr hfp1 h
         have h := cutr gt10 h
         cases h;exact eq_by
        ·exact lbk hfp1 h
   ·have h := finr hfp1 h
    refine cut_at (()) (some_in h) ?_
    exact weak_by
  rintro t10 rfl
  have h : _ = some _ := gt10
  refine avb ?_
  cases h;exact eq_by

theorem i_beforeMeaning_ok (N : Nat) (v0 : Gx.Meaning) (v1 : Gx.Meaning) {r : Bool} (h : i_beforeMeaning N v0 v1 = some r) : Pure Tryz.prog 121 [DV.agg (Gx.Meaning.enc v0), DV.agg (Gx.Meaning.enc v1)] (DV.one (D.b r)) := by
 refine pure_of_walk Tryz.tok Tryz.mixed Tryz.func121 (by kernel_rfl) fun W => ?_
 unfold i_beforeMeaning at h
 refine avb ?_
 refine brb h ?_ ?_<;>intro _ h
 ·refine plb ?_;refine call_sel (E := fun (x : Bool) => DV.one (D.b x)) h (fun x1 h1 => (i_BeforeWord_ok N v0.mWord v1.mWord h1)) (fun x1 hx1 h => ?_)
  refine avb ?_
  cases h;exact eq_by
 ·cases h;exact eq_by

theorem i_IsDictionary_ok (N : Nat) (v0 : List (Gx.Meaning)) {r : Bool} (h : i_IsDictionary N v0 = some r) : Pure Tryz.prog 54 [DV.one (D.sl 2 (List.map Gx.Meaning.enc v0))] (DV.one (D.b r)) := by
 refine pure_of_walk Tryz.tok Tryz.mixed Tryz.func54 (by kernel_rfl) fun W => ?_
 unfold i_IsDictionary at h
 refine avb ?_
 refine lns (v0.length : Int) ?_
 refine avb ?_
 refine br_sel h (fun _ h => ?_) (fun _ h => ?_)
 ·refine avb ?_
  cases h;exact eq_by
 ·refine ab0 ?_
  obtain ⟨zt8, h, gt8⟩ := cutb_some h
  refine W.r_cut (fun (t8 : Unit) => ⟨[], [], 1000⟩) (fun t => .nx t = zt8) ?_ ?_
  ·refine avb ?_
   refine lns (v0.length : Int) ?_
   refine avb ?_
   refine loop_lp (fun (p1 : Int) => ⟨[(0, .d (D.sl 2 (List.map Gx.Meaning.enc v0))), (8, .d (D.sl 2 (List.map Gx.Meaning.enc v0))), (9, .d (D.i (v0.length : Int))), (10, .d (D.i p1))], [], 1000⟩) h ?_ ?_
   ·exact weak_by
   intro np1 p1 yp1 h hfp1
   unfold i_IsDictionary_L1 at h
   refine avb ?_
   refine brb h ?_ ?_<;>intro _ h
   ·refine idx_sel h (fun x1 hx1 h => ?_)
    refine avb ?_
    refine brb h ?_ ?_<;>intro _ h
    ·refine idx_sel h (fun x2 hx2 h => ?_)
     refine avb ?_
     refine plb ?_;refine call_sel (E := fun (x : Bool) => DV.one (D.b x)) h (fun x3 h1 => (i_beforeMeaning_ok N x2 x1 h1)) (fun x3 hx3 h => ?_)
     refine avb ?_
     refine brb h ?_ ?_<;>intro _ h
     ·have h := finr hfp1 h
      have h := cutr gt8 h
      cases h;exact eq_by
     ·refine plb ?_;refine call_sel (E := fun (x : Bool) => DV.one (D.b x)) h (fun x4 h1 => (i_IsWord_ok N x1.mWord h1)) (fun x4 hx4 h => ?_)
      refine avb ?_
      refine brb h ?_ ?_<;>intro _ h
      ·have h := finr hfp1 h
       have h := cutr gt8 h
       cases h;exact eq_by
      ·refine plb ?_;refine call_sel (E := fun (x : Bool) => DV.one (D.b x)) h (fun x5 h1 => (i_InRange_ok N x1.mSense 1 99 h1)) (fun x5 hx5 h => ?_)
       refine avb ?_
       refine brb h ?_ ?_<;>intro _ h
       ·have h := finr hfp1 h
        have h := cutr gt8 h
        cases h;exact eq_by
       ·exact lbk hfp1 h
    ·refine plb ?_;refine call_sel (E := fun (x : Bool) => DV.one (D.b x)) h (fun x6 h1 => (i_IsWord_ok N x1.mWord h1)) (fun x6 hx6 h => ?_)
     refine avb ?_
     refine brb h ?_ ?_<;>intro _ h
     ·have h := finr hfp1 h
      have h := cutr gt8 h
      cases h;exact eq_by
     ·refine plb ?_;refine call_sel (E := fun (x : Bool) => DV.one (D.b x)) h (fun x7 h1 => (i_InRange_ok N x1.mSense 1 99 h1)) (fun x7 hx7 h => ?_)
      refine avb ?_
      refine brb h ?_ ?_<;>intro _ h
      ·have h := finr hfp1 h
       have h := cutr gt8 h
       cases h;exact eq_by
      ·exact lbk hfp1 h
   ·have h := finr hfp1 h
    refine cut_at (()) (some_in h) ?_
    exact weak_by
  rintro t8 rfl
  have h : _ = some _ := gt8
  refine avb ?_
  cases h;exact eq_by

theorem g_slices_Equal_Simpl_Step_impl_Step_ok (N : Nat) (v0 : List (Gx.Step)) (v1 : List (Gx.Step)) {r : Bool} (h : g_slices_Equal_Simpl_Step_impl_Step N v0 v1 = some r) : Pure Tryz.prog 172 [DV.one (D.sl 4 (List.map Gx.Step.enc v0)), DV.one (D.sl 4 (List.map Gx.Step.enc v1))] (DV.one (D.b r)) := by
 refine pure_of_walk Tryz.tok Tryz.mixed Tryz.func172 (by kernel_rfl) fun W => ?_
 unfold g_slices_Equal_Simpl_Step_impl_Step at h
 refine avb ?_
 refine lns (v0.length : Int) ?_
 refine avb ?_
 refine lns (v1.length : Int) ?_
 refine avb ?_
 refine br_sel h (fun _ h => ?_) (fun _ h => ?_)
 ·refine avb ?_
  cases h;exact eq_by
 ·refine ab0 ?_
  obtain ⟨zt3, h, gt3⟩ := cutb_some h
  refine W.r_cut (fun (t3 : Unit) => ⟨[], [], 1000⟩) (fun t => .nx t = zt3) ?_ ?_
  ·refine avb ?_
   refine lns (v0.length : Int) ?_
   refine avb ?_
   refine loop_lp (fun (p1 : Int) => ⟨[(0, .d (D.sl 4 (List.map Gx.Step.enc v0))), (1, .d (D.sl 4 (List.map Gx.Step.enc v1))), (12, .d (D.i (v0.length : Int))), (13, .d (D.i p1))], [], 1000⟩) h ?_ ?_
   ·exact weak_by
   intro np1 p1 yp1 h hfp1
   unfold g_slices_Equal_Simpl_Step_impl_Step_L1 at h
   refine avb ?_
   refine brb h ?_ ?_<;>intro _ h
   ·refine idx_sel h (fun x1 hx1 h => ?_)
    refine avb ?_
    refine idx_sel h (fun x2 hx2 h => ?_)
    refine avb ?_
    refine brb h ?_ ?_<;>intro _ h
    ·have h := finr hfp1 h
     have h := cutr gt3 h
     cases h;exact eq_by
    ·exact lbk hfp1 h
   ·have h := finr hfp1 h
    refine cut_at (()) (some_in h) ?_
    exact weak_by
  rintro t3 rfl
  have h : _ = some _ := gt3
  refine avb ?_
  cases h;exact eq_by

theorem i_sameClue_ok (N : Nat) (v0 : Gx.Clue) (v1 : Gx.Clue) {r : Bool} (h : i_sameClue N v0 v1 = some r) : Pure Tryz.prog 123 [DV.agg (Gx.Clue.enc v0), DV.agg (Gx.Clue.enc v1)] (DV.one (D.b r)) := by
 refine pure_of_walk Tryz.tok Tryz.mixed Tryz.func123 (by kernel_rfl) fun W => ?_
 unfold i_sameClue at h
 refine avb ?_
 refine brb h ?_ ?_<;>intro _ h
 ·refine plb ?_;refine call_sel (E := fun (x : Bool) => DV.one (D.b x)) h (fun x1 h1 => (g_slices_Equal_Simpl_Step_impl_Step_ok N v0.mPlay v1.mPlay h1)) (fun x1 hx1 h => ?_)
  refine avb ?_
  cases h;exact eq_by
 ·cases h;exact eq_by

theorem g_slices_EqualFunc_Simpl_Clue_Simpl_Clue_impl_Clue_impl_Clue_ok0 (N : Nat) (v0 : List (Gx.Clue)) (v1 : List (Gx.Clue)) (v2 : (Gx.Clue) → (Gx.Clue) → Option Bool) (fv2 : FuncId) (hv2 : ∀ a0 a1 r, v2 a0 a1 = some r → Pure Tryz.prog fv2 [DV.agg (Gx.Clue.enc a0), DV.agg (Gx.Clue.enc a1)] (DV.one (D.b r))) {r : Bool} (h : g_slices_EqualFunc_Simpl_Clue_Simpl_Clue_impl_Clue_impl_Clue N v0 v1 v2 = some r) : Pure Tryz.prog 122 [DV.one (D.sl 2 (List.map Gx.Clue.enc v0)), DV.one (D.sl 2 (List.map Gx.Clue.enc v1)), DV.fn fv2 []] (DV.one (D.b r)) := by
 refine pure_of_walk Tryz.tok Tryz.mixed Tryz.func122 (by kernel_rfl) fun W => ?_
 unfold g_slices_EqualFunc_Simpl_Clue_Simpl_Clue_impl_Clue_impl_Clue at h
 refine avb ?_
 refine lns (v0.length : Int) ?_
 refine avb ?_
 refine lns (v1.length : Int) ?_
 refine avb ?_
 refine br_sel h (fun _ h => ?_) (fun _ h => ?_)
 ·refine avb ?_
  cases h;exact eq_by
 ·refine ab0 ?_
  obtain ⟨zt4, h, gt4⟩ := cutb_some h
  refine W.r_cut (fun (t4 : Unit) => ⟨[], [], 1000⟩) (fun t => .nx t = zt4) ?_ ?_
  ·refine avb ?_
   refine lns (v0.length : Int) ?_
   refine avb ?_
   refine loop_lp (fun (p1 : Int) => ⟨[(1, .d (D.sl 2 (List.map Gx.Clue.enc v1))), (2, .fn fv2 []), (15, .d (D.sl 2 (List.map Gx.Clue.enc v0))), (16, .d (D.i (v0.length : Int))), (17, .d (D.i p1))], [], 1000⟩) h ?_ ?_
   ·exact weak_by
   intro np1 p1 yp1 h hfp1
   unfold g_slices_EqualFunc_Simpl_Clue_Simpl_Clue_impl_Clue_impl_Clue_L1 at h
   refine avb ?_
   refine brb h ?_ ?_<;>intro _ h
   ·refine idx_sel h (fun x1 hx1 h => ?_)
    refine avb ?_
    refine idx_sel h (fun x2 hx2 h => ?_)
    refine avb ?_
    refine plb ?_;refine call_sel (E := fun (x : Bool) => DV.one (D.b x)) h (fun x3 h1 => (hv2 _ _ _ h1)) (fun x3 hx3 h => ?_)
    refine avb ?_
    refine brb h ?_ ?_<;>intro _ h
    ·have h := finr hfp1 h
     have h := cutr gt4 h
     cases h;exact eq_by
    ·exact lbk hfp1 h
   ·have h := finr hfp1 h
    refine cut_at (()) (some_in h) ?_
    exact weak_by
  rintro t4 rfl
  have h : _ = some _ := gt4
  refine avb ?_
  cases h;exact eq_by

theorem i_EqualDrafts_ok (N : Nat) (v0 : Gx.Draft) (v1 : Gx.Draft) {r : Bool} (h : i_EqualDrafts N v0 v1 = some r) : Pure Tryz.prog 55 [DV.agg (Gx.Draft.enc v0), DV.agg (Gx.Draft.enc v1)] (DV.one (D.b r)) := by
 refine pure_of_walk Tryz.tok Tryz.mixed Tryz.func55 (by kernel_rfl) fun W => ?_
 unfold i_EqualDrafts at h
 refine avb ?_
 refine brb h ?_ ?_<;>intro _ h
 ·refine brb h ?_ ?_<;>intro _ h
  ·refine plb ?_;refine call_sel (E := fun (x : Bool) => DV.one (D.b x)) h (fun x1 h1 => (g_slices_EqualFunc_Simpl_Clue_Simpl_Clue_impl_Clue_impl_Clue_ok0 N v0.mClues v1.mClues (fun a0 a1 => i_sameClue N a0 a1) 123 (fun a0 a1 _ hh => i_sameClue_ok N a0 a1 hh) h1)) (fun x1 hx1 h => ?_)
   refine avb ?_
   refine brb h ?_ ?_<;>intro _ h
   ·cases h;exact eq_by
   ·cases h;exact eq_by
  ·cases h;exact eq_by
 ·cases h;exact eq_by

theorem i_IsGrid_ok (N : Nat) (v0 : Gx.Grid) {r : Bool} (h : i_IsGrid N v0 = some r) : Pure Tryz.prog 173 [DV.agg (Gx.Grid.enc v0)] (DV.one (D.b r)) := by
 refine pure_of_walk Tryz.tok Tryz.mixed Tryz.func173 (by kernel_rfl) fun W => ?_
 unfold i_IsGrid at h
 refine avb ?_
 refine plb ?_;refine call_sel (E := fun (x : Bool) => DV.one (D.b x)) h (fun x1 h1 => (i_InRange_ok N v0.mRows 2 6 h1)) (fun x1 hx1 h => ?_)
 refine avb ?_
 refine brb h ?_ ?_<;>intro _ h
 ·cases h;exact eq_by
 ·refine plb ?_;refine call_sel (E := fun (x : Bool) => DV.one (D.b x)) h (fun x2 h1 => (i_InRange_ok N v0.mCols 2 6 h1)) (fun x2 hx2 h => ?_)
  refine avb ?_
  refine brb h ?_ ?_<;>intro _ h
  ·cases h;exact eq_by
  ·refine lns (v0.mCells.length : Int) ?_
   refine avb ?_
   refine br_sel h (fun _ h => ?_) (fun _ h => ?_)
   ·refine avb ?_
    cases h;exact eq_by
   ·refine ab0 ?_
    obtain ⟨zt3, h, gt3⟩ := cutb_some h
    refine W.r_cut (fun (t3 : Unit) => ⟨[], [], 1000⟩) (fun t => .nx t = zt3) ?_ ?_
    ·refine avb ?_
     refine lns (v0.mCells.length : Int) ?_
     refine avb ?_
     refine loop_lp (fun (p1 : Int) => ⟨[(1, .ptr 1 0 0), (27, .d (D.i (v0.mCells.length : Int))), (28, .d (D.i p1))], [(1, some (.box [.d (D.i v0.mRows), .d (D.i v0.mCols), .d (D.s v0.mCells)]))], 1000⟩) h ?_ ?_
     ·exact weak_by
     intro np1 p1 yp1 h hfp1
     unfold i_IsGrid_L1 at h
     refine avb ?_
     refine brb h ?_ ?_<;>intro _ h
     ·refine chk_sel h (fun q => q) (fun h => ?_)
      refine avb ?_
      refine brb h ?_ ?_<;>intro _ h
      ·refine chk_sel h (fun q => q) (fun h => ?_)
       refine avb ?_
       refine brb h ?_ ?_<;>intro _ h
       ·have h := finr hfp1 h
        have h := cutr gt3 h
        cases h;exact eq_by
       ·exact lbk hfp1 h
      ·exact lbk hfp1 h
     ·have h := finr hfp1 h
      refine cut_at (()) (some_in h) ?_
      exact weak_by
    rintro t3 rfl
    have h : _ = some _ := gt3
    refine avb ?_
    cases h;exact eq_by

theorem g_slices_Reverse_Sbyte_byte_ok (N : Nat) (v0 : List (UInt8)) {r : (List (UInt8))} (h : g_slices_Reverse_Sbyte_byte N v0 = some r) : Turn Tryz.prog 231 [.sl 0] [.arr 1 (List.map encU v0) true] [some (.arr 1 (List.map encU r) true)] (.tup []) := by
 refine turn_of_walk Tryz.tok Tryz.mixed Tryz.func231 (by kernel_rfl) rfl fun W => ?_
 unfold g_slices_Reverse_Sbyte_byte at h
 refine avb ?_
 refine lns (v0.length : Int) ?_
 refine avb ?_
 refine loop_lp (fun (p1 : (List (UInt8)) × Int × Int) => ⟨[(0, .sl 1), (2, .d (D.i p1.2.1)), (3, .d (D.i p1.2.2))], [(1, some (.arr 1 (List.map encU p1.1) true)), (990, some (.pin [.sl 1]))], 1000⟩) h ?_ ?_
 ·exact weak_by
 intro np1 p1 yp1 h hfp1
 unfold g_slices_Reverse_Sbyte_byte_L1 at h
 refine avb ?_
 refine brb h ?_ ?_<;>intro _ h
 ·refine idxp_sel h (fun x1 hx1 h => ?_)
  refine avb ?_
  refine ldp_sel hx1 ?_
  refine avb ?_
  refine idxp_sel h (fun x2 hx2 h => ?_)
  refine avb ?_
  refine ldp_sel hx2 ?_
  refine avb ?_
  refine idxp_sel h (fun x3 hx3 h => ?_)
  refine avb ?_
  refine ldp_sel hx3 ?_
  refine avb ?_
  refine idxp_raw (show _ = List.map encU (List.set p1.1 (Int.toNat p1.2.1) x1) by (exact eq_by)) h (fun x4 hx4 h => ?_)
  refine avb ?_
  refine ldp_raw (show _ = List.map encU (List.set p1.1 (Int.toNat p1.2.1) x1) by (exact eq_by)) hx4 ?_
  refine avb ?_
  exact lbk hfp1 h
 ·have h := finr hfp1 h
  obtain rfl := some_in h
  exact ⟨cons_eq (some_arr (by (exact eq_by))) (rfl), by (exact eq_by)⟩

theorem i_Backwards_ok (N : Nat) (v0 : List UInt8) {r : (List UInt8)} (h : i_Backwards N v0 = some r) : Pure Tryz.prog 226 [DV.one (D.s v0)] (DV.one (D.s r)) := by
 refine pure_of_walk Tryz.tok Tryz.mixed Tryz.func226 (by kernel_rfl) fun W => ?_
 unfold i_Backwards at h
 refine avb ?_
 refine lns (v0.length : Int) ?_
 refine avb ?_
 refine brb h ?_ ?_<;>intro _ h
 ·cases h;exact eq_by
 ·refine chk_sel h (fun q => Nat.le_trans q (by decide)) (fun h => ?_)
  refine avb ?_
  refine qtb ?_;refine turn_sel (O := fun (x1 : (List (UInt8))) => [some (.arr 1 (List.map encU x1) true)]) (V := fun (x1 : (List (UInt8))) => .tup []) h ⟨flat_map (fun _ => rfl), trivial⟩ (fun x1 h1 => (g_slices_Reverse_Sbyte_byte_ok N v0 h1)) (fun x1 hx1 h => ?_)
  refine avb ?_
  refine ⟨x1, (by (exact eq_by)), ?_⟩
  refine avb ?_
  cases h;exact eq_by

theorem i_TurnGrid_ok (N : Nat) (v0 : Gx.Grid) {r : Gx.Grid} (h : i_TurnGrid N v0 = some r) : Pure Tryz.prog 206 [DV.agg (Gx.Grid.enc v0)] (DV.agg (Gx.Grid.enc r)) := by
 refine pure_of_walk Tryz.tok Tryz.mixed Tryz.func206 (by kernel_rfl) fun W => ?_
 unfold i_TurnGrid at h
 refine avb ?_
 refine plb ?_;refine call_sel (E := fun (x : Bool) => DV.one (D.b x)) h (fun x1 h1 => (i_IsGrid_ok N v0 h1)) (fun x1 hx1 h => ?_)
 refine avb ?_
 refine brb h ?_ ?_<;>intro _ h
 ·cases h;exact eq_by
 ·refine plb ?_;refine call_sel (E := fun (x : (List UInt8)) => DV.one (D.s x)) h (fun x2 h1 => (i_Backwards_ok N v0.mCells h1)) (fun x2 hx2 h => ?_)
  refine avb ?_
  cases h;exact eq_by

theorem i_IsSymmetric_ok (N : Nat) (v0 : Gx.Grid) {r : Bool} (h : i_IsSymmetric N v0 = some r) : Pure Tryz.prog 174 [DV.agg (Gx.Grid.enc v0)] (DV.one (D.b r)) := by
 refine pure_of_walk Tryz.tok Tryz.mixed Tryz.func174 (by kernel_rfl) fun W => ?_
 unfold i_IsSymmetric at h
 refine avb ?_
 refine plb ?_;refine call_sel (E := fun (x : Bool) => DV.one (D.b x)) h (fun x1 h1 => (i_IsGrid_ok N v0 h1)) (fun x1 hx1 h => ?_)
 refine avb ?_
 refine brb h ?_ ?_<;>intro _ h
 ·refine plb ?_;refine call_sel (E := fun (x : Gx.Grid) => DV.agg (Gx.Grid.enc x)) h (fun x2 h1 => (i_TurnGrid_ok N v0 h1)) (fun x2 hx2 h => ?_)
  refine avb ?_
  cases h;exact eq_by
 ·cases h;exact eq_by

theorem i_at_ok (N : Nat) (v0 : Int) (v1 : Int) {r : Bool} (h : i_at N v0 v1 = some r) : Pure Tryz.prog 61 [DV.one (D.i v0), DV.one (D.i v1)] (DV.one (D.b r)) := by
 refine pure_of_walk Tryz.tok Tryz.mixed Tryz.func61 (by kernel_rfl) fun W => ?_
 unfold i_at at h
 refine avb ?_
 refine brb h ?_ ?_<;>intro _ h
 ·cases h;exact eq_by
 ·cases h;exact eq_by

theorem i_PartsOf_1_B_ok (N : Nat) (r_i_PartsOf_1 : Int → Int → Gx.Grid → (List (Bool)) → Option ((List (Bool)))) (hr_i_PartsOf_1 : ∀ a0 a1 a2 a3 r, r_i_PartsOf_1 a0 a1 a2 a3 = some r → Turn Tryz.prog 227 [.d (D.i a0), .d (D.i a1), .ptr 0 0 0, .ptr 1 0 0, .ptr 2 0 0] [.box [.d (D.i a2.mRows), .d (D.i a2.mCols), .d (D.s a2.mCells)], .box [.sl 3], .box [.fn 227 [.ptr 0 0 0, .ptr 1 0 0, .ptr 2 0 0]], .arr 1 (List.map Gx.encB a3) true] [some (.box [.d (D.i a2.mRows), .d (D.i a2.mCols), .d (D.s a2.mCells)]), some (.box [.sl 3]), some (.box [.fn 227 [.ptr 0 0 0, .ptr 1 0 0, .ptr 2 0 0]]), some (.arr 1 (List.map Gx.encB r) true)] (.tup [])) (v0 : Int) (v1 : Int) (c0 : Gx.Grid) (c1 : List (Bool)) {r : (List (Bool))} (h : i_PartsOf_1_B N r_i_PartsOf_1 v0 v1 c0 c1 = some r) : Turn Tryz.prog 227 [.d (D.i v0), .d (D.i v1), .ptr 0 0 0, .ptr 1 0 0, .ptr 2 0 0] [.box [.d (D.i c0.mRows), .d (D.i c0.mCols), .d (D.s c0.mCells)], .box [.sl 3], .box [.fn 227 [.ptr 0 0 0, .ptr 1 0 0, .ptr 2 0 0]], .arr 1 (List.map Gx.encB c1) true] [some (.box [.d (D.i c0.mRows), .d (D.i c0.mCols), .d (D.s c0.mCells)]), some (.box [.sl 3]), some (.box [.fn 227 [.ptr 0 0 0, .ptr 1 0 0, .ptr 2 0 0]]), some (.arr 1 (List.map Gx.encB r) true)] (.tup []) := by
 refine turn_of_walk Tryz.tok Tryz.mixed Tryz.func227 (by kernel_rfl) rfl fun W => ?_
 unfold i_PartsOf_1_B at h
 refine avb ?_
 refine plb ?_;refine call_sel (E := fun (x : Bool) => DV.one (D.b x)) h (fun x1 h1 => (i_at_ok N v0 c0.mRows h1)) (fun x1 hx1 h => ?_)
 refine avb ?_
 refine brb h ?_ ?_<;>intro _ h
 ·obtain rfl := some_in h
  exact ⟨cons_eq rfl (cons_eq rfl (cons_eq rfl (cons_eq (some_arr (by (exact eq_by))) (rfl)))), by (exact eq_by)⟩
 ·refine plb ?_;refine call_sel (E := fun (x : Bool) => DV.one (D.b x)) h (fun x2 h1 => (i_at_ok N v1 c0.mCols h1)) (fun x2 hx2 h => ?_)
  refine avb ?_
  refine brb h ?_ ?_<;>intro _ h
  ·obtain rfl := some_in h
   exact ⟨cons_eq rfl (cons_eq rfl (cons_eq rfl (cons_eq (some_arr (by (exact eq_by))) (rfl)))), by (exact eq_by)⟩
  ·refine idxp_sel h (fun x3 hx3 h => ?_)
   refine avb ?_
   refine ldp_sel hx3 ?_
   refine avb ?_
   refine brb h ?_ ?_<;>intro _ h
   ·obtain rfl := some_in h
    exact ⟨cons_eq rfl (cons_eq rfl (cons_eq rfl (cons_eq (some_arr (by (exact eq_by))) (rfl)))), by (exact eq_by)⟩
   ·refine chk_sel h (fun q => q) (fun h => ?_)
    refine avb ?_
    refine brb h ?_ ?_<;>intro _ h
    ·obtain rfl := some_in h
     exact ⟨cons_eq rfl (cons_eq rfl (cons_eq rfl (cons_eq (some_arr (by (exact eq_by))) (rfl)))), by (exact eq_by)⟩
    ·refine idxp_sel h (fun x4 hx4 h => ?_)
     refine avb ?_
     refine ldp_sel hx4 ?_
     refine avb ?_
     refine qtb ?_;refine turn_sel (O := fun (x5 : (List (Bool))) => [some (.box [.d (D.i c0.mRows), .d (D.i c0.mCols), .d (D.s c0.mCells)]), some (.box [.sl 3]), some (.box [.fn 227 [.ptr 0 0 0, .ptr 1 0 0, .ptr 2 0 0]]), some (.arr 1 (List.map Gx.encB x5) true)]) (V := fun (x5 : (List (Bool))) => .tup []) h ⟨flat_eq (show _ = List.map Gx.encB (List.set c1 (Int.toNat (w64 ((w64 (v0 * c0.mCols)) + v1))) true) by (exact eq_by)) (fun _ => rfl), trivial⟩ (fun x5 h1 => (turn_objs (by (exact eq_by)) (hr_i_PartsOf_1 (w64 (v0 - 1)) v1 c0 (List.set c1 (Int.toNat (w64 ((w64 (v0 * c0.mCols)) + v1))) true) _ h1))) (fun x5 hx5 h => ?_)
     refine avb ?_
     refine qtb ?_;refine turn_sel (O := fun (x6 : (List (Bool))) => [some (.box [.d (D.i c0.mRows), .d (D.i c0.mCols), .d (D.s c0.mCells)]), some (.box [.sl 3]), some (.box [.fn 227 [.ptr 0 0 0, .ptr 1 0 0, .ptr 2 0 0]]), some (.arr 1 (List.map Gx.encB x6) true)]) (V := fun (x6 : (List (Bool))) => .tup []) h ⟨flat_map (fun _ => rfl), trivial⟩ (fun x6 h1 => (hr_i_PartsOf_1 (w64 (v0 + 1)) v1 c0 x5 _ h1)) (fun x6 hx6 h => ?_)
     refine avb ?_
     refine qtb ?_;refine turn_sel (O := fun (x7 : (List (Bool))) => [some (.box [.d (D.i c0.mRows), .d (D.i c0.mCols), .d (D.s c0.mCells)]), some (.box [.sl 3]), some (.box [.fn 227 [.ptr 0 0 0, .ptr 1 0 0, .ptr 2 0 0]]), some (.arr 1 (List.map Gx.encB x7) true)]) (V := fun (x7 : (List (Bool))) => .tup []) h ⟨flat_map (fun _ => rfl), trivial⟩ (fun x7 h1 => (hr_i_PartsOf_1 v0 (w64 (v1 - 1)) c0 x6 _ h1)) (fun x7 hx7 h => ?_)
     refine avb ?_
     refine qtb ?_;refine turn_sel (O := fun (x8 : (List (Bool))) => [some (.box [.d (D.i c0.mRows), .d (D.i c0.mCols), .d (D.s c0.mCells)]), some (.box [.sl 3]), some (.box [.fn 227 [.ptr 0 0 0, .ptr 1 0 0, .ptr 2 0 0]]), some (.arr 1 (List.map Gx.encB x8) true)]) (V := fun (x8 : (List (Bool))) => .tup []) h ⟨flat_map (fun _ => rfl), trivial⟩ (fun x8 h1 => (hr_i_PartsOf_1 v0 (w64 (v1 + 1)) c0 x7 _ h1)) (fun x8 hx8 h => ?_)
     refine avb ?_
     obtain rfl := some_in h
     exact ⟨cons_eq rfl (cons_eq rfl (cons_eq rfl (cons_eq (some_arr (by (exact eq_by))) (rfl)))), by (exact eq_by)⟩

theorem i_PartsOf_1_R_ok (N : Nat) : ∀ n : Nat, (∀ a0 a1 a2 a3 r, i_PartsOf_1_R N n a0 a1 a2 a3 = some r → Turn Tryz.prog 227 [.d (D.i a0), .d (D.i a1), .ptr 0 0 0, .ptr 1 0 0, .ptr 2 0 0] [.box [.d (D.i a2.mRows), .d (D.i a2.mCols), .d (D.s a2.mCells)], .box [.sl 3], .box [.fn 227 [.ptr 0 0 0, .ptr 1 0 0, .ptr 2 0 0]], .arr 1 (List.map Gx.encB a3) true] [some (.box [.d (D.i a2.mRows), .d (D.i a2.mCols), .d (D.s a2.mCells)]), some (.box [.sl 3]), some (.box [.fn 227 [.ptr 0 0 0, .ptr 1 0 0, .ptr 2 0 0]]), some (.arr 1 (List.map Gx.encB r) true)] (.tup []))
 | 0 => fun _ _ _ _ _ h => by simp [i_PartsOf_1_R] at h
 | n + 1 => by
  have ih := i_PartsOf_1_R_ok N n
  exact fun a0 a1 a2 a3 _ h => i_PartsOf_1_B_ok N _ (ih) a0 a1 a2 a3 h

theorem i_PartsOf_1_ok (N : Nat) (v0 : Int) (v1 : Int) (v2 : Gx.Grid) (v3 : List (Bool)) {r : (List (Bool))} (h : i_PartsOf_1 N v0 v1 v2 v3 = some r) : Turn Tryz.prog 227 [.d (D.i v0), .d (D.i v1), .ptr 0 0 0, .ptr 1 0 0, .ptr 2 0 0] [.box [.d (D.i v2.mRows), .d (D.i v2.mCols), .d (D.s v2.mCells)], .box [.sl 3], .box [.fn 227 [.ptr 0 0 0, .ptr 1 0 0, .ptr 2 0 0]], .arr 1 (List.map Gx.encB v3) true] [some (.box [.d (D.i v2.mRows), .d (D.i v2.mCols), .d (D.s v2.mCells)]), some (.box [.sl 3]), some (.box [.fn 227 [.ptr 0 0 0, .ptr 1 0 0, .ptr 2 0 0]]), some (.arr 1 (List.map Gx.encB r) true)] (.tup []) :=
 (i_PartsOf_1_R_ok N N) v0 v1 v2 v3 _ h

theorem i_PartsOf_ok (N : Nat) (v0 : Gx.Grid) {r : Int} (h : i_PartsOf N v0 = some r) : Pure Tryz.prog 207 [DV.agg (Gx.Grid.enc v0)] (DV.one (D.i r)) := by
 refine pure_of_walk Tryz.tok Tryz.mixed Tryz.func207 (by kernel_rfl) fun W => ?_
 unfold i_PartsOf at h
 refine avb ?_
 refine plb ?_;refine call_sel (E := fun (x : Bool) => DV.one (D.b x)) h (fun x1 h1 => (i_IsGrid_ok N v0 h1)) (fun x1 hx1 h => ?_)
 refine avb ?_
 refine brb h ?_ ?_<;>intro _ h
 ·cases h;exact eq_by
 ·refine lns (v0.mCells.length : Int) ?_
  refine avb ?_
  refine chk_sel h (fun q => mks_ok q (by decide)) (fun h => ?_)
  refine ab0 ?_
  refine W.r_seq ?_
  refine ab0 ?_
  refine W.r_seq ?_
  refine ab0 ?_
  refine W.r_seq ?_
  refine ab0 ?_
  obtain ⟨zt5, h, gt5⟩ := bnd_some h
  refine W.r_cut (fun (t5 : Int) => ⟨[(5, .d (D.i t5))], [], 1000⟩) (fun t => t = zt5) ?_ ?_
  ·refine avb ?_
   refine lns (v0.mCells.length : Int) ?_
   refine avb ?_
   refine loop_lp (fun (p1 : (List (Bool)) × Int × Int) => ⟨[(1, .ptr 1 0 0), (3, .ptr 2 0 0), (4, .ptr 4 0 0), (5, .d (D.i p1.2.1)), (17, .d (D.i (v0.mCells.length : Int))), (18, .d (D.i p1.2.2))], [(1, some (.box [.d (D.i v0.mRows), .d (D.i v0.mCols), .d (D.s v0.mCells)])), (2, some (.box [.sl 3])), (3, some (.arr 1 (List.map Gx.encB p1.1) true)), (4, some (.box [.fn 227 [.ptr 1 0 0, .ptr 2 0 0, .ptr 4 0 0]]))], 1000⟩) h ?_ ?_
   ·exact weak_by
   intro np1 p1 yp1 h hfp1
   unfold i_PartsOf_L1 at h
   refine avb ?_
   refine br_sel h (fun _ h => ?_) (fun _ h => ?_)
   ·refine ab0 ?_
    refine W.r_seq ?_
    refine ab0 ?_
    refine W.r_seq ?_
    refine ab0 ?_
    obtain ⟨zt3, h, gt3⟩ := bnd_some h
    refine W.r_cut (fun (t3 : Bool) => ⟨[(1, .ptr 1 0 0), (3, .ptr 2 0 0), (4, .ptr 4 0 0), (5, .d (D.i p1.2.1)), (6, .d (D.i p1.2.2)), (17, .d (D.i (v0.mCells.length : Int))), (18, .d (D.i p1.2.2)), (32, .d (D.b t3))], [(1, some (.box [.d (D.i v0.mRows), .d (D.i v0.mCols), .d (D.s v0.mCells)])), (2, some (.box [.sl 3])), (3, some (.arr 1 (List.map Gx.encB p1.1) true)), (4, some (.box [.fn 227 [.ptr 1 0 0, .ptr 2 0 0, .ptr 4 0 0]]))], 1000⟩) (fun t => t = zt3) ?_ ?_
    ·refine avb ?_
     refine chk_sel h (fun q => q) (fun h => ?_)
     refine avb ?_
     refine brb h ?_ ?_<;>intro _ h
     ·refine idxp_sel h (fun x2 hx2 h => ?_)
      refine avb ?_
      refine ldp_sel hx2 ?_
      refine avb ?_
      refine cut_at (!x2) (some_in h) ?_
      exact weak_by
     ·refine cut_at (false) (some_in h) ?_
      exact weak_by
    rintro t3 rfl
    have h : _ = some _ := gt3
    refine avb ?_
    refine brb h ?_ ?_<;>intro _ h
    ·refine chk_sel h (fun q => q) (fun h => ?_)
     refine avb ?_
     refine chk_sel h (fun q => q) (fun h => ?_)
     refine avb ?_
     refine qtb ?_;refine turn_sel (O := fun (x4 : (List (Bool))) => [some (.box [.d (D.i v0.mRows), .d (D.i v0.mCols), .d (D.s v0.mCells)]), some (.box [.sl 3]), some (.box [.fn 227 [.ptr 0 0 0, .ptr 1 0 0, .ptr 2 0 0]]), some (.arr 1 (List.map Gx.encB x4) true)]) (V := fun (x4 : (List (Bool))) => .tup []) h ⟨flat_map (fun _ => rfl), trivial⟩ (fun x4 h1 => (i_PartsOf_1_ok N (w64 (Int.tdiv p1.2.2 v0.mCols)) (Int.tmod p1.2.2 v0.mCols) v0 p1.1 h1)) (fun x4 hx4 h => ?_)
     refine avb ?_
     exact lbk hfp1 h
    ·exact lbk hfp1 h
   ·refine avb ?_
    have h := finr hfp1 h
    refine cut_at (p1.2.1) (some_in h) ?_
    exact weak_by
  rintro t5 rfl
  have h : _ = some _ := gt5
  refine avb ?_
  cases h;exact eq_by

end Lw
end Go.Proofs
