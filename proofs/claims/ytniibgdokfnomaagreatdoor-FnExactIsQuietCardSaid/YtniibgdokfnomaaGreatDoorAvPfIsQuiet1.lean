/- PRINTED BY gen.py (mine): their contracts. -/
import Derived.Test.YtniibgdokfnomaaGreatDoorAvPfIsQuiet0
namespace Go.Proofs
open Go Go.Av
set_option maxRecDepth 100000
set_option maxHeartbeats 40000000
set_option linter.unusedVariables false
set_option linter.unusedSimpArgs false
namespace Lw
theorem s_l10Alone_ok (N : Nat) (v0 : Gx.Grid) {r : Bool} (h : s_l10Alone N v0 = some r) : Pure Tryz.prog 134 [DV.agg (Gx.Grid.enc v0)] (DV.one (D.b r)) := by
 refine pure_of_walk Tryz.tok Tryz.mixed Tryz.func134 (by kernel_rfl) fun W => ?_
 unfold s_l10Alone at h
 refine avb ?_
 refine plb ?_;refine call_sel (E := fun (x : (List (Gx.Slot))) => DV.one (D.sl 4 (List.map Gx.Slot.enc x))) h (fun x1 h1 => (s_SlotsOf_ok N v0 h1)) (fun x1 hx1 h => ?_)
 refine ab0 ?_
 obtain ⟨zt4, h, gt4⟩ := cutb_some h
 refine W.r_cut (fun (t4 : Unit) => ⟨[(1, .ptr 1 0 0)], [(1, some (.box [.d (D.i v0.mRows), .d (D.i v0.mCols), .d (D.s v0.mCells)]))], 1000⟩) (fun t => .nx t = zt4) ?_ ?_
 ·refine avb ?_
  refine loop_lp (fun (p1 : Int) => ⟨[(1, .ptr 1 0 0), (3, .sl 2), (4, .d (D.i p1))], [(1, some (.box [.d (D.i v0.mRows), .d (D.i v0.mCols), .d (D.s v0.mCells)])), (2, some (.arr 4 (List.map Gx.Slot.enc x1) true))], 1000⟩) h ?_ ?_
  ·exact weak_by
  intro np1 p1 yp1 h hfp1
  unfold s_l10Alone_L1 at h
  refine avb ?_
  refine lns (x1.length : Int) ?_
  refine avb ?_
  refine brb h ?_ ?_<;>intro _ h
  ·refine plb ?_;refine call_sel (E := fun (x : Int) => DV.one (D.i x)) h (fun x2 h1 => (s_UncheckedIn_ok N v0 p1 h1)) (fun x2 hx2 h => ?_)
   refine avb ?_
   refine idxp_sel h (fun x3 hx3 h => ?_)
   refine avb ?_
   refine ldp_sel hx3 ?_
   refine avb ?_
   refine brb h ?_ ?_<;>intro _ h
   ·have h := finr hfp1 h
    have h := cutr gt4 h
    cases h;exact eq_by
   ·exact lbk hfp1 h
  ·have h := finr hfp1 h
   refine cut_at (()) (some_in h) ?_
   exact weak_by
 rintro t4 rfl
 have h : _ = some _ := gt4
 refine ab0 ?_
 obtain ⟨zt7, h, gt7⟩ := cutb_some h
 refine W.r_cut (fun (t7 : Unit) => ⟨[], [], 1000⟩) (fun t => .nx t = zt7) ?_ ?_
 ·refine avb ?_
  refine loop_lp (fun (p2 : Int) => ⟨[(1, .ptr 1 0 0), (5, .d (D.i p2))], [(1, some (.box [.d (D.i v0.mRows), .d (D.i v0.mCols), .d (D.s v0.mCells)]))], 1000⟩) h ?_ ?_
  ·exact weak_by
  intro np2 p2 yp2 h hfp2
  unfold s_l10Alone_L2 at h
  refine avb ?_
  refine lns (v0.mCells.length : Int) ?_
  refine avb ?_
  refine brb h ?_ ?_<;>intro _ h
  ·refine plb ?_;refine call_sel (E := fun (x : Bool) => DV.one (D.b x)) h (fun x5 h1 => (s_IsWhite_ok N v0 p2 h1)) (fun x5 hx5 h => ?_)
   refine avb ?_
   refine brb h ?_ ?_<;>intro _ h
   ·refine plb ?_;refine call_sel (E := fun (x : (List (Int))) => DV.one (D.sl 1 (List.map Gx.encI x))) h (fun x6 h1 => (s_SlotsAt_ok N v0 p2 h1)) (fun x6 hx6 h => ?_)
    refine avb ?_
    refine lns (x6.length : Int) ?_
    refine avb ?_
    refine brb h ?_ ?_<;>intro _ h
    ·have h := finr hfp2 h
     have h := cutr gt7 h
     cases h;exact eq_by
    ·exact lbk hfp2 h
   ·exact lbk hfp2 h
  ·have h := finr hfp2 h
   refine cut_at (()) (some_in h) ?_
   exact weak_by
 rintro t7 rfl
 have h : _ = some _ := gt7
 refine avb ?_
 cases h;exact eq_by

theorem s_FormOf_ok (N : Nat) (v0 : Gx.Grid) {r : Int} (h : s_FormOf N v0 = some r) : Pure Tryz.prog 93 [DV.agg (Gx.Grid.enc v0)] (DV.one (D.i r)) := by
 refine pure_of_walk Tryz.tok Tryz.mixed Tryz.func93 (by kernel_rfl) fun W => ?_
 unfold s_FormOf at h
 refine avb ?_
 refine plb ?_;refine call_sel (E := fun (x : Bool) => DV.one (D.b x)) h (fun x1 h1 => (s_IsGrid_ok N v0 h1)) (fun x1 hx1 h => ?_)
 refine avb ?_
 refine brb h ?_ ?_<;>intro _ h
 ·cases h;exact eq_by
 ·refine plb ?_;refine call_sel (E := fun (x : Bool) => DV.one (D.b x)) h (fun x2 h1 => (s_IsSymmetric_ok N v0 h1)) (fun x2 hx2 h => ?_)
  refine avb ?_
  refine brb h ?_ ?_<;>intro _ h
  ·cases h;exact eq_by
  ·refine plb ?_;refine call_sel (E := fun (x : Bool) => DV.one (D.b x)) h (fun x3 h1 => (s_IsConnected_ok N v0 h1)) (fun x3 hx3 h => ?_)
   refine avb ?_
   refine brb h ?_ ?_<;>intro _ h
   ·cases h;exact eq_by
   ·refine plb ?_;refine call_sel (E := fun (x : Bool) => DV.one (D.b x)) h (fun x4 h1 => (s_l10Short_ok N v0 h1)) (fun x4 hx4 h => ?_)
    refine avb ?_
    refine brb h ?_ ?_<;>intro _ h
    ·cases h;exact eq_by
    ·refine plb ?_;refine call_sel (E := fun (x : Bool) => DV.one (D.b x)) h (fun x5 h1 => (s_l10Alone_ok N v0 h1)) (fun x5 hx5 h => ?_)
     refine avb ?_
     refine brb h ?_ ?_<;>intro _ h
     ·cases h;exact eq_by
     ·cases h;exact eq_by

theorem s_IsPuzzle_ok (N : Nat) (v0 : Gx.Puzzle) {r : Bool} (h : s_IsPuzzle N v0 = some r) : Pure Tryz.prog 146 [DV.agg (Gx.Puzzle.enc v0)] (DV.one (D.b r)) := by
 refine pure_of_walk Tryz.tok Tryz.mixed Tryz.func146 (by kernel_rfl) fun W => ?_
 unfold s_IsPuzzle at h
 refine ab0 ?_
 refine W.r_seq ?_
 refine ab0 ?_
 obtain ⟨zt3, h, gt3⟩ := cutb_some h
 refine W.r_cut (fun (t3 : Unit) => ⟨[(1, .ptr 1 0 0)], [(1, some (.box [.d (D.i v0.mGrid.mRows), .d (D.i v0.mGrid.mCols), .d (D.s v0.mGrid.mCells), .d (D.sl 2 (List.map Gx.Clue.enc v0.mClues)), .d (D.sl 1 (List.map Gx.encI v0.mSeals)), .d (D.i v0.mSalt)]))], 1000⟩) (fun t => .nx t = zt3) ?_ ?_
 ·refine avb ?_
  refine loop_lp (fun (p1 : Int) => ⟨[(1, .ptr 1 0 0), (3, .d (D.i p1))], [(1, some (.box [.d (D.i v0.mGrid.mRows), .d (D.i v0.mGrid.mCols), .d (D.s v0.mGrid.mCells), .d (D.sl 2 (List.map Gx.Clue.enc v0.mClues)), .d (D.sl 1 (List.map Gx.encI v0.mSeals)), .d (D.i v0.mSalt)]))], 1000⟩) h ?_ ?_
  ·exact weak_by
  intro np1 p1 yp1 h hfp1
  unfold s_IsPuzzle_L1 at h
  refine avb ?_
  refine lns (v0.mClues.length : Int) ?_
  refine avb ?_
  refine brb h ?_ ?_<;>intro _ h
  ·refine idx_sel h (fun x1 hx1 h => ?_)
   refine avb ?_
   refine plb ?_;refine call_sel (E := fun (x : Bool) => DV.one (D.b x)) h (fun x2 h1 => (s_IsClue_ok N x1 h1)) (fun x2 hx2 h => ?_)
   refine avb ?_
   refine brb h ?_ ?_<;>intro _ h
   ·have h := finr hfp1 h
    have h := cutr gt3 h
    cases h;exact eq_by
   ·exact lbk hfp1 h
  ·have h := finr hfp1 h
   refine cut_at (()) (some_in h) ?_
   exact weak_by
 rintro t3 rfl
 have h : _ = some _ := gt3
 refine avb ?_
 refine plb ?_;refine call_sel (E := fun (x : (List (Gx.Slot))) => DV.one (D.sl 4 (List.map Gx.Slot.enc x))) h (fun x4 h1 => (s_SlotsOf_ok N v0.mGrid h1)) (fun x4 hx4 h => ?_)
 refine avb ?_
 refine lns (x4.length : Int) ?_
 refine avb ?_
 refine plb ?_;refine call_sel (E := fun (x : Int) => DV.one (D.i x)) h (fun x5 h1 => (s_FormOf_ok N v0.mGrid h1)) (fun x5 hx5 h => ?_)
 refine avb ?_
 refine brb h ?_ ?_<;>intro _ h
 ·refine lns (v0.mClues.length : Int) ?_
  refine avb ?_
  refine brb h ?_ ?_<;>intro _ h
  ·refine lns (v0.mSeals.length : Int) ?_
   refine avb ?_
   refine brb h ?_ ?_<;>intro _ h
   ·refine plb ?_;refine call_sel (E := fun (x : Bool) => DV.one (D.b x)) h (fun x6 h1 => (s_l1In_ok N v0.mSalt 1 9999 h1)) (fun x6 hx6 h => ?_)
    refine avb ?_
    cases h;exact eq_by
   ·cases h;exact eq_by
  ·cases h;exact eq_by
 ·cases h;exact eq_by

theorem s_IsFill_ok (N : Nat) (v0 : Gx.Grid) (v1 : List UInt8) {r : Bool} (h : s_IsFill N v0 v1 = some r) : Pure Tryz.prog 182 [DV.agg (Gx.Grid.enc v0), DV.one (D.s v1)] (DV.one (D.b r)) := by
 refine pure_of_walk Tryz.tok Tryz.mixed Tryz.func182 (by kernel_rfl) fun W => ?_
 unfold s_IsFill at h
 refine avb ?_
 refine plb ?_;refine call_sel (E := fun (x : Bool) => DV.one (D.b x)) h (fun x1 h1 => (s_IsGrid_ok N v0 h1)) (fun x1 hx1 h => ?_)
 refine avb ?_
 refine brb h ?_ ?_<;>intro _ h
 ·cases h;exact eq_by
 ·refine lns (v1.length : Int) ?_
  refine avb ?_
  refine lns (v0.mCells.length : Int) ?_
  refine avb ?_
  refine br_sel h (fun _ h => ?_) (fun _ h => ?_)
  ·refine avb ?_
   cases h;exact eq_by
  ·refine ab0 ?_
   obtain ⟨zt3, h, gt3⟩ := cutb_some h
   refine W.r_cut (fun (t3 : Unit) => ⟨[], [], 1000⟩) (fun t => .nx t = zt3) ?_ ?_
   ·refine avb ?_
    refine loop_lp (fun (p1 : Int) => ⟨[(1, .d (D.s v1)), (2, .ptr 1 0 0), (5, .d (D.i p1))], [(1, some (.box [.d (D.i v0.mRows), .d (D.i v0.mCols), .d (D.s v0.mCells)]))], 1000⟩) h ?_ ?_
    ·exact weak_by
    intro np1 p1 yp1 h hfp1
    unfold s_IsFill_L1 at h
    refine avb ?_
    refine lns (v1.length : Int) ?_
    refine avb ?_
    refine br_sel h (fun _ h => ?_) (fun _ h => ?_)
    ·refine ab0 ?_
     refine W.r_seq ?_
     refine ab0 ?_
     obtain ⟨zt2, h, gt2⟩ := bnd_some h
     refine W.r_cut (fun (t2 : Bool) => ⟨[(1, .d (D.s v1)), (2, .ptr 1 0 0), (5, .d (D.i p1)), (6, .d (D.b t2))], [(1, some (.box [.d (D.i v0.mRows), .d (D.i v0.mCols), .d (D.s v0.mCells)]))], 1000⟩) (fun t => t = zt2) ?_ ?_
     ·refine avb ?_
      refine chk_sel h (fun q => q) (fun h => ?_)
      refine avb ?_
      refine brb h ?_ ?_<;>intro _ h
      ·refine cut_at (true) (some_in h) ?_
       exact weak_by
      ·refine chk_sel h (fun q => q) (fun h => ?_)
       refine avb ?_
       refine brb h ?_ ?_<;>intro _ h
       ·refine chk_sel h (fun q => q) (fun h => ?_)
        refine avb ?_
        refine cut_at (decide ((byteI v1 p1) ≤ 122)) (some_in h) ?_
        exact weak_by
       ·refine cut_at (false) (some_in h) ?_
        exact weak_by
     rintro t2 rfl
     have h : _ = some _ := gt2
     refine avb ?_
     refine chk_sel h (fun q => q) (fun h => ?_)
     refine avb ?_
     refine brb h ?_ ?_<;>intro _ h
     ·refine chk_sel h (fun q => q) (fun h => ?_)
      refine avb ?_
      refine brb h ?_ ?_<;>intro _ h
      ·have h := finr hfp1 h
       have h := cutr gt3 h
       cases h;exact eq_by
      ·refine chk_sel h (fun q => q) (fun h => ?_)
       refine avb ?_
       refine brb h ?_ ?_<;>intro _ h
       ·refine brb h ?_ ?_<;>intro _ h
        ·have h := finr hfp1 h
         have h := cutr gt3 h
         cases h;exact eq_by
        ·exact lbk hfp1 h
       ·exact lbk hfp1 h
     ·refine chk_sel h (fun q => q) (fun h => ?_)
      refine avb ?_
      refine brb h ?_ ?_<;>intro _ h
      ·refine brb h ?_ ?_<;>intro _ h
       ·have h := finr hfp1 h
        have h := cutr gt3 h
        cases h;exact eq_by
       ·exact lbk hfp1 h
      ·exact lbk hfp1 h
    ·refine avb ?_
     have h := finr hfp1 h
     refine cut_at (()) (some_in h) ?_
     exact weak_by
   rintro t3 rfl
   have h : _ = some _ := gt3
   refine avb ?_
   cases h;exact eq_by

theorem s_l11Open_ok (N : Nat) (v0 : List UInt8) {r : Bool} (h : s_l11Open N v0 = some r) : Pure Tryz.prog 183 [DV.one (D.s v0)] (DV.one (D.b r)) := by
 refine pure_of_walk Tryz.tok Tryz.mixed Tryz.func183 (by kernel_rfl) fun W => ?_
 unfold s_l11Open at h
 refine ab0 ?_
 refine W.r_seq ?_
 refine ab0 ?_
 obtain ⟨zt1, h, gt1⟩ := cutb_some h
 refine W.r_cut (fun (t1 : Unit) => ⟨[], [], 1000⟩) (fun t => .nx t = zt1) ?_ ?_
 ·refine avb ?_
  refine loop_lp (fun (p1 : Int) => ⟨[(0, .d (D.s v0)), (3, .d (D.i p1))], [], 1000⟩) h ?_ ?_
  ·exact weak_by
  intro np1 p1 yp1 h hfp1
  unfold s_l11Open_L1 at h
  refine avb ?_
  refine lns (v0.length : Int) ?_
  refine avb ?_
  refine brb h ?_ ?_<;>intro _ h
  ·refine chk_sel h (fun q => q) (fun h => ?_)
   refine avb ?_
   refine brb h ?_ ?_<;>intro _ h
   ·have h := finr hfp1 h
    have h := cutr gt1 h
    cases h;exact eq_by
   ·exact lbk hfp1 h
  ·have h := finr hfp1 h
   refine cut_at (()) (some_in h) ?_
   exact weak_by
 rintro t1 rfl
 have h : _ = some _ := gt1
 refine avb ?_
 cases h;exact eq_by

theorem s_IsFull_ok (N : Nat) (v0 : Gx.Grid) (v1 : List UInt8) {r : Bool} (h : s_IsFull N v0 v1 = some r) : Pure Tryz.prog 147 [DV.agg (Gx.Grid.enc v0), DV.one (D.s v1)] (DV.one (D.b r)) := by
 refine pure_of_walk Tryz.tok Tryz.mixed Tryz.func147 (by kernel_rfl) fun W => ?_
 unfold s_IsFull at h
 refine avb ?_
 refine plb ?_;refine call_sel (E := fun (x : Bool) => DV.one (D.b x)) h (fun x1 h1 => (s_IsFill_ok N v0 v1 h1)) (fun x1 hx1 h => ?_)
 refine avb ?_
 refine brb h ?_ ?_<;>intro _ h
 ·refine plb ?_;refine call_sel (E := fun (x : Bool) => DV.one (D.b x)) h (fun x2 h1 => (s_l11Open_ok N v1 h1)) (fun x2 hx2 h => ?_)
  refine avb ?_
  cases h;exact eq_by
 ·cases h;exact eq_by

theorem s_SlotPattern_ok (N : Nat) (v0 : Gx.Grid) (v1 : List UInt8) (v2 : Int) {r : (List UInt8)} (h : s_SlotPattern N v0 v1 v2 = some r) : Pure Tryz.prog 185 [DV.agg (Gx.Grid.enc v0), DV.one (D.s v1), DV.one (D.i v2)] (DV.one (D.s r)) := by
 refine pure_of_walk Tryz.tok Tryz.mixed Tryz.func185 (by kernel_rfl) fun W => ?_
 unfold s_SlotPattern at h
 refine avb ?_
 refine plb ?_;refine call_sel (E := fun (x : (List (Gx.Slot))) => DV.one (D.sl 4 (List.map Gx.Slot.enc x))) h (fun x1 h1 => (s_SlotsOf_ok N v0 h1)) (fun x1 hx1 h => ?_)
 refine avb ?_
 refine plb ?_;refine call_sel (E := fun (x : Bool) => DV.one (D.b x)) h (fun x2 h1 => (s_IsFill_ok N v0 v1 h1)) (fun x2 hx2 h => ?_)
 refine avb ?_
 refine brb h ?_ ?_<;>intro _ h
 ·cases h;exact eq_by
 ·refine lns (x1.length : Int) ?_
  refine avb ?_
  refine plb ?_;refine call_sel (E := fun (x : Bool) => DV.one (D.b x)) h (fun x3 h1 => (s_l1In_ok N v2 0 (w64 ((x1.length : Int) - 1)) h1)) (fun x3 hx3 h => ?_)
  refine avb ?_
  refine brb h ?_ ?_<;>intro _ h
  ·cases h;exact eq_by
  ·refine idxp_sel h (fun x4 hx4 h => ?_)
   refine avb ?_
   refine ldp_sel hx4 ?_
   refine avb ?_
   refine plb ?_;refine call_sel (E := fun (x : (List (Int))) => DV.one (D.sl 1 (List.map Gx.encI x))) h (fun x5 h1 => (s_CellsOf_ok N v0 x4 h1)) (fun x5 hx5 h => ?_)
   refine ab0 ?_
   obtain ⟨zt8, h, gt8⟩ := bnd_some h
   refine W.r_cut (fun (t8 : (List UInt8)) => ⟨[(8, .d (D.s t8))], [], 1000⟩) (fun t => t = zt8) ?_ ?_
   ·refine avb ?_
    refine loop_lp (fun (p1 : (List UInt8) × Int) => ⟨[(1, .d (D.s v1)), (8, .d (D.s p1.1)), (9, .sl 1), (10, .d (D.i p1.2))], [(1, some (.arr 1 (List.map Gx.encI x5) true))], 1000⟩) h ?_ ?_
    ·exact weak_by
    intro np1 p1 yp1 h hfp1
    unfold s_SlotPattern_L1 at h
    refine avb ?_
    refine lns (x5.length : Int) ?_
    refine avb ?_
    refine brb h ?_ ?_<;>intro _ h
    ·refine idxp_sel h (fun x6 hx6 h => ?_)
     refine avb ?_
     refine ldp_sel hx6 ?_
     refine avb ?_
     refine idxp_sel h (fun x7 hx7 h => ?_)
     refine avb ?_
     refine ldp_sel hx7 ?_
     refine avb ?_
     refine chk_sel h (fun q => q) (fun h => ?_)
     refine avb ?_
     refine chk_sel h (fun q => Nat.le_trans q (by decide)) (fun h => ?_)
     refine avb ?_
     exact lbk hfp1 h
    ·have h := finr hfp1 h
     refine cut_at (p1.1) (some_in h) ?_
     exact weak_by
   rintro t8 rfl
   have h : _ = some _ := gt8
   refine avb ?_
   cases h;exact eq_by

theorem s_LettersOf_ok (N : Nat) (v0 : List UInt8) {r : (List (Int))} (h : s_LettersOf N v0 = some r) : Pure Tryz.prog 230 [DV.one (D.s v0)] (DV.one (D.sl 1 (List.map Gx.encI r))) := by
 refine pure_of_walk Tryz.tok Tryz.mixed Tryz.func230 (by kernel_rfl) fun W => ?_
 unfold s_LettersOf at h
 refine ab0 ?_
 refine W.r_seq ?_
 refine ab0 ?_
 refine W.r_seq ?_
 refine ab0 ?_
 obtain ⟨zt1, h, gt1⟩ := bnd_some h
 refine W.r_cut (fun (t1 : (List (Int))) => ⟨[(3, .sl 1)], [(1, some (.arr 1 (List.map Gx.encI t1) true))], 1000⟩) (fun t => t = zt1) ?_ ?_
 ·refine avb ?_
  refine loop_lp (fun (p1 : (List (Int)) × Int) => ⟨[(0, .d (D.s v0)), (3, .sl 1), (4, .d (D.i p1.2))], [(1, some (.arr 1 (List.map Gx.encI p1.1) true))], 1000⟩) h ?_ ?_
  ·exact weak_by
  intro np1 p1 yp1 h hfp1
  unfold s_LettersOf_L1 at h
  refine avb ?_
  refine lns (v0.length : Int) ?_
  refine avb ?_
  refine brb h ?_ ?_<;>intro _ h
  ·refine chk_sel h (fun q => q) (fun h => ?_)
   refine avb ?_
   refine app_sel h (app_ok (by (first|rfl|simp [sub])) (by (first|rfl|simp [sub])) (by decide)) (by (intro h; cases h)) (fun h => ?_)
   refine avb ?_
   exact lbk hfp1 h
  ·have h := finr hfp1 h
   refine cut_at (p1.1) (some_in h) ?_
   exact weak_by
 rintro t1 rfl
 have h : _ = some _ := gt1
 refine avb ?_
 cases h;exact eq_by

theorem s_Mod_ok (N : Nat) (v0 : Int) (v1 : Int) {r : Int} (h : s_Mod N v0 v1 = some r) : Pure Tryz.prog 240 [DV.one (D.i v0), DV.one (D.i v1)] (DV.one (D.i r)) := by
 refine pure_of_walk Tryz.tok Tryz.mixed Tryz.func240 (by kernel_rfl) fun W => ?_
 unfold s_Mod at h
 refine avb ?_
 refine plb ?_;refine call_sel (E := fun (x : Bool) => DV.one (D.b x)) h (fun x1 h1 => (s_l1In_ok N v1 1 1000000000000 h1)) (fun x1 hx1 h => ?_)
 refine avb ?_
 refine brb h ?_ ?_<;>intro _ h
 ·cases h;exact eq_by
 ·refine chk_sel h (fun q => q) (fun h => ?_)
  refine avb ?_
  refine chk_sel h (fun q => q) (fun h => ?_)
  refine avb ?_
  cases h;exact eq_by

theorem s_Hash_ok (N : Nat) (v0 : List (Int)) {r : Int} (h : s_Hash N v0 = some r) : Pure Tryz.prog 229 [DV.one (D.sl 1 (List.map Gx.encI v0))] (DV.one (D.i r)) := by
 refine pure_of_walk Tryz.tok Tryz.mixed Tryz.func229 (by kernel_rfl) fun W => ?_
 unfold s_Hash at h
 refine ab0 ?_
 refine W.r_seq ?_
 refine ab0 ?_
 refine W.r_seq ?_
 refine ab0 ?_
 obtain ⟨zt3, h, gt3⟩ := bnd_some h
 refine W.r_cut (fun (t3 : Int) => ⟨[(3, .d (D.i t3))], [], 1000⟩) (fun t => t = zt3) ?_ ?_
 ·refine avb ?_
  refine loop_lp (fun (p1 : Int × Int) => ⟨[(0, .d (D.sl 1 (List.map Gx.encI v0))), (3, .d (D.i p1.1)), (4, .d (D.i p1.2))], [], 1000⟩) h ?_ ?_
  ·exact weak_by
  intro np1 p1 yp1 h hfp1
  unfold s_Hash_L1 at h
  refine avb ?_
  refine lns (v0.length : Int) ?_
  refine avb ?_
  refine brb h ?_ ?_<;>intro _ h
  ·refine idx_sel h (fun x1 hx1 h => ?_)
   refine avb ?_
   refine plb ?_;refine call_sel (E := fun (x : Int) => DV.one (D.i x)) h (fun x2 h1 => (s_Mod_ok N x1 2147483647 h1)) (fun x2 hx2 h => ?_)
   refine avb ?_
   refine chk_sel h (fun q => q) (fun h => ?_)
   refine avb ?_
   exact lbk hfp1 h
  ·have h := finr hfp1 h
   refine cut_at (p1.1) (some_in h) ?_
   exact weak_by
 rintro t3 rfl
 have h : _ = some _ := gt3
 refine avb ?_
 cases h;exact eq_by

theorem s_SealAnswer_ok (N : Nat) (v0 : Int) (v1 : Int) (v2 : List UInt8) {r : Int} (h : s_SealAnswer N v0 v1 v2 = some r) : Pure Tryz.prog 216 [DV.one (D.i v0), DV.one (D.i v1), DV.one (D.s v2)] (DV.one (D.i r)) := by
 refine pure_of_walk Tryz.tok Tryz.mixed Tryz.func216 (by kernel_rfl) fun W => ?_
 unfold s_SealAnswer at h
 refine avb ?_
 refine plb ?_;refine call_sel (E := fun (x : Bool) => DV.one (D.b x)) h (fun x1 h1 => (s_IsWord_ok N v2 h1)) (fun x1 hx1 h => ?_)
 refine avb ?_
 refine brb h ?_ ?_<;>intro _ h
 ·cases h;exact eq_by
 ·refine lns (v2.length : Int) ?_
  refine avb ?_
  refine plb ?_;refine call_sel (E := fun (x : (List (Int))) => DV.one (D.sl 1 (List.map Gx.encI x))) h (fun x2 h1 => (s_LettersOf_ok N v2 h1)) (fun x2 hx2 h => ?_)
  refine avb ?_
  refine app_sel h (app_ok (by (first|rfl|simp [sub])) (by (first|rfl|simp [sub])) (by decide)) (by (intro h; cases h)) (fun h => ?_)
  refine avb ?_
  refine plb ?_;refine call_sel (E := fun (x : Int) => DV.one (D.i x)) h (fun x3 h1 => (pure_args (by (exact eq_by)) (s_Hash_ok N (([v0, v1, (v2.length : Int)]) ++ x2) h1))) (fun x3 hx3 h => ?_)
  refine avb ?_
  cases h;exact eq_by

theorem s_ChecksAnswer_ok (N : Nat) (v0 : List (Int)) (v1 : Int) (v2 : Int) (v3 : List UInt8) {r : Bool} (h : s_ChecksAnswer N v0 v1 v2 v3 = some r) : Pure Tryz.prog 184 [DV.one (D.sl 1 (List.map Gx.encI v0)), DV.one (D.i v1), DV.one (D.i v2), DV.one (D.s v3)] (DV.one (D.b r)) := by
 refine pure_of_walk Tryz.tok Tryz.mixed Tryz.func184 (by kernel_rfl) fun W => ?_
 unfold s_ChecksAnswer at h
 refine avb ?_
 refine lns (v0.length : Int) ?_
 refine avb ?_
 refine plb ?_;refine call_sel (E := fun (x : Bool) => DV.one (D.b x)) h (fun x1 h1 => (s_l1In_ok N v2 0 (w64 ((v0.length : Int) - 1)) h1)) (fun x1 hx1 h => ?_)
 refine avb ?_
 refine brb h ?_ ?_<;>intro _ h
 ·refine plb ?_;refine call_sel (E := fun (x : Bool) => DV.one (D.b x)) h (fun x2 h1 => (s_IsWord_ok N v3 h1)) (fun x2 hx2 h => ?_)
  refine avb ?_
  refine brb h ?_ ?_<;>intro _ h
  ·refine plb ?_;refine call_sel (E := fun (x : Int) => DV.one (D.i x)) h (fun x3 h1 => (s_SealAnswer_ok N v1 v2 v3 h1)) (fun x3 hx3 h => ?_)
   refine avb ?_
   refine idx_sel h (fun x4 hx4 h => ?_)
   refine avb ?_
   cases h;exact eq_by
  ·cases h;exact eq_by
 ·cases h;exact eq_by

theorem s_RightSlots_ok (N : Nat) (v0 : Gx.Grid) (v1 : List UInt8) (v2 : List (Int)) (v3 : Int) {r : (List (Int))} (h : s_RightSlots N v0 v1 v2 v3 = some r) : Pure Tryz.prog 148 [DV.agg (Gx.Grid.enc v0), DV.one (D.s v1), DV.one (D.sl 1 (List.map Gx.encI v2)), DV.one (D.i v3)] (DV.one (D.sl 1 (List.map Gx.encI r))) := by
 refine pure_of_walk Tryz.tok Tryz.mixed Tryz.func148 (by kernel_rfl) fun W => ?_
 unfold s_RightSlots at h
 refine avb ?_
 refine plb ?_;refine call_sel (E := fun (x : (List (Gx.Slot))) => DV.one (D.sl 4 (List.map Gx.Slot.enc x))) h (fun x1 h1 => (s_SlotsOf_ok N v0 h1)) (fun x1 hx1 h => ?_)
 refine ab0 ?_
 obtain ⟨zt5, h, gt5⟩ := bnd_some h
 refine W.r_cut (fun (t5 : (List (Int))) => ⟨[(9, .sl 1)], [(1, some (.arr 1 (List.map Gx.encI t5) true))], 1000⟩) (fun t => t = zt5) ?_ ?_
 ·refine avb ?_
  refine loop_lp (fun (p1 : (List (Int)) × Int) => ⟨[(1, .d (D.s v1)), (2, .d (D.sl 1 (List.map Gx.encI v2))), (3, .d (D.i v3)), (4, .ptr 1 0 0), (9, .sl 2), (10, .sl 3), (11, .d (D.i p1.2))], [(1, some (.box [.d (D.i v0.mRows), .d (D.i v0.mCols), .d (D.s v0.mCells)])), (2, some (.arr 1 (List.map Gx.encI p1.1) true)), (3, some (.arr 4 (List.map Gx.Slot.enc x1) true))], 1000⟩) h ?_ ?_
  ·exact weak_by
  intro np1 p1 yp1 h hfp1
  unfold s_RightSlots_L1 at h
  refine avb ?_
  refine lns (x1.length : Int) ?_
  refine avb ?_
  refine brb h ?_ ?_<;>intro _ h
  ·refine plb ?_;refine call_sel (E := fun (x : Bool) => DV.one (D.b x)) h (fun x2 h1 => (s_IsFill_ok N v0 v1 h1)) (fun x2 hx2 h => ?_)
   refine avb ?_
   refine brb h ?_ ?_<;>intro _ h
   ·refine plb ?_;refine call_sel (E := fun (x : (List UInt8)) => DV.one (D.s x)) h (fun x3 h1 => (s_SlotPattern_ok N v0 v1 p1.2 h1)) (fun x3 hx3 h => ?_)
    refine avb ?_
    refine plb ?_;refine call_sel (E := fun (x : Bool) => DV.one (D.b x)) h (fun x4 h1 => (s_ChecksAnswer_ok N v2 v3 p1.2 x3 h1)) (fun x4 hx4 h => ?_)
    refine avb ?_
    refine brb h ?_ ?_<;>intro _ h
    ·refine app_sel h (app_ok (by (first|rfl|simp [sub])) (by (first|rfl|simp [sub])) (by decide)) (by (intro h; cases h)) (fun h => ?_)
     refine avb ?_
     exact lbk hfp1 h
    ·exact lbk hfp1 h
   ·have h := finr hfp1 h
    refine cut_at (p1.1) (some_in h) ?_
    exact weak_by
  ·have h := finr hfp1 h
   refine cut_at (p1.1) (some_in h) ?_
   exact weak_by
 rintro t5 rfl
 have h : _ = some _ := gt5
 refine avb ?_
 cases h;exact eq_by

theorem s_IsSolved_ok (N : Nat) (v0 : Gx.Puzzle) (v1 : List UInt8) {r : Bool} (h : s_IsSolved N v0 v1 = some r) : Pure Tryz.prog 114 [DV.agg (Gx.Puzzle.enc v0), DV.one (D.s v1)] (DV.one (D.b r)) := by
 refine pure_of_walk Tryz.tok Tryz.mixed Tryz.func114 (by kernel_rfl) fun W => ?_
 unfold s_IsSolved at h
 refine avb ?_
 refine plb ?_;refine call_sel (E := fun (x : Bool) => DV.one (D.b x)) h (fun x1 h1 => (s_IsPuzzle_ok N v0 h1)) (fun x1 hx1 h => ?_)
 refine avb ?_
 refine brb h ?_ ?_<;>intro _ h
 ·refine plb ?_;refine call_sel (E := fun (x : Bool) => DV.one (D.b x)) h (fun x2 h1 => (s_IsFull_ok N v0.mGrid v1 h1)) (fun x2 hx2 h => ?_)
  refine avb ?_
  refine brb h ?_ ?_<;>intro _ h
  ·refine plb ?_;refine call_sel (E := fun (x : (List (Int))) => DV.one (D.sl 1 (List.map Gx.encI x))) h (fun x3 h1 => (s_RightSlots_ok N v0.mGrid v1 v0.mSeals v0.mSalt h1)) (fun x3 hx3 h => ?_)
   refine avb ?_
   refine lns (x3.length : Int) ?_
   refine avb ?_
   refine lns (v0.mClues.length : Int) ?_
   refine avb ?_
   cases h;exact eq_by
  ·cases h;exact eq_by
 ·cases h;exact eq_by

theorem s_IsIssue_ok (N : Nat) (v0 : Gx.Issue) {r : Bool} (h : s_IsIssue N v0 = some r) : Pure Tryz.prog 68 [DV.agg (Gx.Issue.enc v0)] (DV.one (D.b r)) := by
 refine pure_of_walk Tryz.tok Tryz.mixed Tryz.func68 (by kernel_rfl) fun W => ?_
 unfold s_IsIssue at h
 refine avb ?_
 refine plb ?_;refine call_sel (E := fun (x : Bool) => DV.one (D.b x)) h (fun x1 h1 => (s_l1In_ok N v0.mNumber 1 999 h1)) (fun x1 hx1 h => ?_)
 refine avb ?_
 refine brb h ?_ ?_<;>intro _ h
 ·refine plb ?_;refine call_sel (E := fun (x : Bool) => DV.one (D.b x)) h (fun x2 h1 => (s_IsSolved_ok N v0.mPuzzle v0.mFill h1)) (fun x2 hx2 h => ?_)
  refine avb ?_
  refine brb h ?_ ?_<;>intro _ h
  ·refine brb h ?_ ?_<;>intro _ h
   ·refine brb h ?_ ?_<;>intro _ h
    ·cases h;exact eq_by
    ·cases h;exact eq_by
   ·cases h;exact eq_by
  ·cases h;exact eq_by
 ·cases h;exact eq_by

theorem s_EmptyFill_ok (N : Nat) (v0 : Gx.Grid) {r : (List UInt8)} (h : s_EmptyFill N v0 = some r) : Pure Tryz.prog 24 [DV.agg (Gx.Grid.enc v0)] (DV.one (D.s r)) := by
 refine pure_of_walk Tryz.tok Tryz.mixed Tryz.func24 (by kernel_rfl) fun W => ?_
 unfold s_EmptyFill at h
 refine ab0 ?_
 refine W.r_seq ?_
 refine ab0 ?_
 refine W.r_seq ?_
 refine ab0 ?_
 obtain ⟨zt2, h, gt2⟩ := bnd_some h
 refine W.r_cut (fun (t2 : (List UInt8)) => ⟨[(3, .d (D.s t2))], [], 1000⟩) (fun t => t = zt2) ?_ ?_
 ·refine avb ?_
  refine loop_lp (fun (p1 : (List UInt8) × Int) => ⟨[(1, .ptr 1 0 0), (3, .d (D.s p1.1)), (4, .d (D.i p1.2))], [(1, some (.box [.d (D.i v0.mRows), .d (D.i v0.mCols), .d (D.s v0.mCells)]))], 1000⟩) h ?_ ?_
  ·exact weak_by
  intro np1 p1 yp1 h hfp1
  unfold s_EmptyFill_L1 at h
  refine avb ?_
  refine lns (v0.mCells.length : Int) ?_
  refine avb ?_
  refine brb h ?_ ?_<;>intro _ h
  ·refine plb ?_;refine call_sel (E := fun (x : Bool) => DV.one (D.b x)) h (fun x1 h1 => (s_IsGrid_ok N v0 h1)) (fun x1 hx1 h => ?_)
   refine avb ?_
   refine brb h ?_ ?_<;>intro _ h
   ·refine chk_sel h (fun q => q) (fun h => ?_)
    refine avb ?_
    refine brb h ?_ ?_<;>intro _ h
    ·refine chk_sel h (fun q => Nat.le_trans q (by decide)) (fun h => ?_)
     refine avb ?_
     exact lbk hfp1 h
    ·refine chk_sel h (fun q => Nat.le_trans q (by decide)) (fun h => ?_)
     refine avb ?_
     exact lbk hfp1 h
   ·have h := finr hfp1 h
    refine cut_at (p1.1) (some_in h) ?_
    exact weak_by
  ·have h := finr hfp1 h
   refine cut_at (p1.1) (some_in h) ?_
   exact weak_by
 rintro t2 rfl
 have h : _ = some _ := gt2
 refine avb ?_
 cases h;exact eq_by

theorem s_SolutionAt_ok (N : Nat) (v0 : Gx.Issue) (v1 : Int) {r : (List UInt8)} (h : s_SolutionAt N v0 v1 = some r) : Pure Tryz.prog 23 [DV.agg (Gx.Issue.enc v0), DV.one (D.i v1)] (DV.one (D.s r)) := by
 refine pure_of_walk Tryz.tok Tryz.mixed Tryz.func23 (by kernel_rfl) fun W => ?_
 unfold s_SolutionAt at h
 refine avb ?_
 refine plb ?_;refine call_sel (E := fun (x : Bool) => DV.one (D.b x)) h (fun x1 h1 => (s_IsIssue_ok N v0 h1)) (fun x1 hx1 h => ?_)
 refine avb ?_
 refine brb h ?_ ?_<;>intro _ h
 ·cases h;exact eq_by
 ·refine brb h ?_ ?_<;>intro _ h
  ·cases h;exact eq_by
  ·refine plb ?_;refine call_sel (E := fun (x : (List UInt8)) => DV.one (D.s x)) h (fun x2 h1 => (s_EmptyFill_ok N v0.mPuzzle.mGrid h1)) (fun x2 hx2 h => ?_)
   refine avb ?_
   cases h;exact eq_by

theorem s_ShownAt_ok (N : Nat) (v0 : Gx.Issue) (v1 : Int) {r : (List (List UInt8))} (h : s_ShownAt N v0 v1 = some r) : Pure Tryz.prog 25 [DV.agg (Gx.Issue.enc v0), DV.one (D.i v1)] (DV.one (D.sl 1 (List.map Gx.encS r))) := by
 refine pure_of_walk Tryz.tok Tryz.mixed Tryz.func25 (by kernel_rfl) fun W => ?_
 unfold s_ShownAt at h
 refine ab0 ?_
 refine W.r_seq ?_
 refine ab0 ?_
 refine W.r_seq ?_
 refine ab0 ?_
 obtain ⟨zt4, h, gt4⟩ := bnd_some h
 refine W.r_cut (fun (t4 : Unit) => ⟨[(5, .sl 1)], [(1, some (.arr 1 (List.map Gx.encS ([])) true))], 1000⟩) (fun t => t = zt4) ?_ ?_
 ·refine avb ?_
  refine loop_lp (fun (p1 : Unit) => ⟨[(1, .d (D.i v1)), (2, .ptr 1 0 0), (5, .sl 2), (6, .d (D.i 0))], [(1, some (.box [.d (D.i v0.mNumber), .d (D.i v0.mPuzzle.mGrid.mRows), .d (D.i v0.mPuzzle.mGrid.mCols), .d (D.s v0.mPuzzle.mGrid.mCells), .d (D.sl 2 (List.map Gx.Clue.enc v0.mPuzzle.mClues)), .d (D.sl 1 (List.map Gx.encI v0.mPuzzle.mSeals)), .d (D.i v0.mPuzzle.mSalt), .d (D.s v0.mFill), .d (D.i v0.mOpen), .d (D.i v0.mClose)])), (2, some (.arr 1 (List.map Gx.encS ([])) true))], 1000⟩) h ?_ ?_
  ·exact weak_by
  intro np1 p1 yp1 h hfp1
  unfold s_ShownAt_L1 at h
  refine avb ?_
  refine lns (v0.mPuzzle.mClues.length : Int) ?_
  refine avb ?_
  refine brb h ?_ ?_<;>intro _ h
  ·refine brb h ?_ ?_<;>intro _ h
   ·refine plb ?_;refine call_sel (E := fun (x : Bool) => DV.one (D.b x)) h (fun x1 h1 => (s_IsIssue_ok N v0 h1)) (fun x1 hx1 h => ?_)
    refine avb ?_
    refine brb h ?_ ?_<;>intro _ h
    ·refine idx_sel h (fun x2 hx2 h => ?_)
     cases h
    ·have h := finr hfp1 h
     refine cut_at (()) (some_in h) ?_
     exact weak_by
   ·have h := finr hfp1 h
    refine cut_at (()) (some_in h) ?_
    exact weak_by
  ·have h := finr hfp1 h
   refine cut_at (()) (some_in h) ?_
   exact weak_by
 rintro t4 rfl
 have h : _ = some _ := gt4
 refine avb ?_
 cases h;exact eq_by

theorem s_IsQuiet_ok (N : Nat) (v0 : Gx.House) {r : Bool} (h : s_IsQuiet N v0 = some r) : Pure Tryz.prog 6 [DV.agg (Gx.House.enc v0)] (DV.one (D.b r)) := by
 refine pure_of_walk Tryz.tok Tryz.mixed Tryz.func6 (by kernel_rfl) fun W => ?_
 unfold s_IsQuiet at h
 refine ab0 ?_
 refine W.r_seq ?_
 refine ab0 ?_
 obtain ⟨zt6, h, gt6⟩ := cutb_some h
 refine W.r_cut (fun (t6 : Unit) => ⟨[], [], 1000⟩) (fun t => .nx t = zt6) ?_ ?_
 ·refine avb ?_
  refine loop_lp (fun (p1 : Int) => ⟨[(1, .ptr 1 0 0), (3, .d (D.i p1))], [(1, some (.box [.d (D.sl 4 (List.map Gx.Listed.enc v0.mList)), .d (D.sl 2 (List.map Gx.Meaning.enc v0.mDict)), .d (D.i v0.mDesk.mGrid.mRows), .d (D.i v0.mDesk.mGrid.mCols), .d (D.s v0.mDesk.mGrid.mCells), .d (D.s v0.mDesk.mFill), .d (D.sl 2 (List.map Gx.Clue.enc v0.mDesk.mClues)), .d (D.i v0.mDesk.mVersion), .d (D.sl 10 (List.map Gx.Issue.enc v0.mIssues)), .d (D.sl 2 (List.map Gx.Used.enc v0.mUses)), .d (D.sl 5 (List.map Gx.Correction.enc v0.mCorrections)), .d (D.sl 4 (List.map Gx.Entry.enc v0.mEntries)), .d (D.i v0.mNow)]))], 1000⟩) h ?_ ?_
  ·exact weak_by
  intro np1 p1 yp1 h hfp1
  unfold s_IsQuiet_L1 at h
  refine avb ?_
  refine lns (v0.mIssues.length : Int) ?_
  refine avb ?_
  refine brb h ?_ ?_<;>intro _ h
  ·refine idx_sel h (fun x1 hx1 h => ?_)
   refine avb ?_
   refine brb h ?_ ?_<;>intro _ h
   ·refine plb ?_;refine call_sel (E := fun (x : (List UInt8)) => DV.one (D.s x)) h (fun x2 h1 => (s_SolutionAt_ok N x1 v0.mNow h1)) (fun x2 hx2 h => ?_)
    refine avb ?_
    refine plb ?_;refine call_sel (E := fun (x : (List UInt8)) => DV.one (D.s x)) h (fun x3 h1 => (s_EmptyFill_ok N x1.mPuzzle.mGrid h1)) (fun x3 hx3 h => ?_)
    refine avb ?_
    refine brb h ?_ ?_<;>intro _ h
    ·have h := finr hfp1 h
     have h := cutr gt6 h
     cases h;exact eq_by
    ·refine brb h ?_ ?_<;>intro _ h
     ·refine plb ?_;refine call_sel (E := fun (x : (List (List UInt8))) => DV.one (D.sl 1 (List.map Gx.encS x))) h (fun x4 h1 => (s_ShownAt_ok N x1 v0.mNow h1)) (fun x4 hx4 h => ?_)
      refine avb ?_
      refine lns (x4.length : Int) ?_
      refine avb ?_
      refine brb h ?_ ?_<;>intro _ h
      ·have h := finr hfp1 h
       have h := cutr gt6 h
       cases h;exact eq_by
      ·exact lbk hfp1 h
     ·exact lbk hfp1 h
   ·refine brb h ?_ ?_<;>intro _ h
    ·refine plb ?_;refine call_sel (E := fun (x : (List (List UInt8))) => DV.one (D.sl 1 (List.map Gx.encS x))) h (fun x5 h1 => (s_ShownAt_ok N x1 v0.mNow h1)) (fun x5 hx5 h => ?_)
     refine avb ?_
     refine lns (x5.length : Int) ?_
     refine avb ?_
     refine brb h ?_ ?_<;>intro _ h
     ·have h := finr hfp1 h
      have h := cutr gt6 h
      cases h;exact eq_by
     ·exact lbk hfp1 h
    ·exact lbk hfp1 h
  ·have h := finr hfp1 h
   refine cut_at (()) (some_in h) ?_
   exact weak_by
 rintro t6 rfl
 have h : _ = some _ := gt6
 refine avb ?_
 cases h;exact eq_by

theorem i_InRange_ok (N : Nat) (v0 : Int) (v1 : Int) (v2 : Int) {r : Bool} (h : i_InRange N v0 v1 v2 = some r) : Pure Tryz.prog 120 [DV.one (D.i v0), DV.one (D.i v1), DV.one (D.i v2)] (DV.one (D.b r)) := by
 refine pure_of_walk Tryz.tok Tryz.mixed Tryz.func120 (by kernel_rfl) fun W => ?_
 unfold i_InRange at h
 refine avb ?_
 refine brb h ?_ ?_<;>intro _ h
 ·cases h;exact eq_by
 ·cases h;exact eq_by

theorem i_IsGrid_ok (N : Nat) (v0 : Gx.Grid) {r : Bool} (h : i_IsGrid N v0 = some r) : Pure Tryz.prog 79 [DV.agg (Gx.Grid.enc v0)] (DV.one (D.b r)) := by
 refine pure_of_walk Tryz.tok Tryz.mixed Tryz.func79 (by kernel_rfl) fun W => ?_
 unfold i_IsGrid at h
 refine avb ?_
 refine plb ?_;refine call_sel (E := fun (x : Bool) => DV.one (D.b x)) h (fun x1 h1 => (i_InRange_ok N v0.mRows 2 6 h1)) (fun x1 hx1 h => ?_)
 refine avb ?_
 refine brb h ?_ ?_<;>intro _ h
 ·cases h;exact eq_by
 ·refine plb ?_;refine call_sel (E := fun (x : Bool) => DV.one (D.b x)) h (fun x2 h1 => (i_InRange_ok N v0.mCols 2 6 h1)) (fun x2 hx2 h => ?_)
  refine avb ?_
  refine brb h ?_ ?_<;>intro _ h
  ·cases h;exact eq_by
  ·refine lns (v0.mCells.length : Int) ?_
   refine avb ?_
   refine br_sel h (fun _ h => ?_) (fun _ h => ?_)
   ·refine avb ?_
    cases h;exact eq_by
   ·refine ab0 ?_
    obtain ⟨zt3, h, gt3⟩ := cutb_some h
    refine W.r_cut (fun (t3 : Unit) => ⟨[], [], 1000⟩) (fun t => .nx t = zt3) ?_ ?_
    ·refine avb ?_
     refine lns (v0.mCells.length : Int) ?_
     refine avb ?_
     refine loop_lp (fun (p1 : Int) => ⟨[(1, .ptr 1 0 0), (27, .d (D.i (v0.mCells.length : Int))), (28, .d (D.i p1))], [(1, some (.box [.d (D.i v0.mRows), .d (D.i v0.mCols), .d (D.s v0.mCells)]))], 1000⟩) h ?_ ?_
     ·exact weak_by
     intro np1 p1 yp1 h hfp1
     unfold i_IsGrid_L1 at h
     refine avb ?_
     refine brb h ?_ ?_<;>intro _ h
     ·refine chk_sel h (fun q => q) (fun h => ?_)
      refine avb ?_
      refine brb h ?_ ?_<;>intro _ h
      ·refine chk_sel h (fun q => q) (fun h => ?_)
       refine avb ?_
       refine brb h ?_ ?_<;>intro _ h
       ·have h := finr hfp1 h
        have h := cutr gt3 h
        cases h;exact eq_by
       ·exact lbk hfp1 h
      ·exact lbk hfp1 h
     ·have h := finr hfp1 h
      refine cut_at (()) (some_in h) ?_
      exact weak_by
    rintro t3 rfl
    have h : _ = some _ := gt3
    refine avb ?_
    cases h;exact eq_by

theorem g_slices_Reverse_Sbyte_byte_ok (N : Nat) (v0 : List (UInt8)) {r : (List (UInt8))} (h : g_slices_Reverse_Sbyte_byte N v0 = some r) : Turn Tryz.prog 227 [.sl 0] [.arr 1 (List.map encU v0) true] [some (.arr 1 (List.map encU r) true)] (.tup []) := by
 refine turn_of_walk Tryz.tok Tryz.mixed Tryz.func227 (by kernel_rfl) rfl fun W => ?_
 unfold g_slices_Reverse_Sbyte_byte at h
 refine avb ?_
 refine lns (v0.length : Int) ?_
 refine avb ?_
 refine loop_lp (fun (p1 : (List (UInt8)) × Int × Int) => ⟨[(0, .sl 1), (2, .d (D.i p1.2.1)), (3, .d (D.i p1.2.2))], [(1, some (.arr 1 (List.map encU p1.1) true)), (990, some (.pin [.sl 1]))], 1000⟩) h ?_ ?_
 ·exact weak_by
 intro np1 p1 yp1 h hfp1
 unfold g_slices_Reverse_Sbyte_byte_L1 at h
 refine avb ?_
 refine brb h ?_ ?_<;>intro _ h
 ·refine idxp_sel h (fun x1 hx1 h => ?_)
  refine avb ?_
  refine ldp_sel hx1 ?_
  refine avb ?_
  refine idxp_sel h (fun x2 hx2 h => ?_)
  refine avb ?_
  refine ldp_sel hx2 ?_
  refine avb ?_
  refine idxp_sel h (fun x3 hx3 h => ?_)
  refine avb ?_
  refine ldp_sel hx3 ?_
  refine avb ?_
  refine idxp_raw (show _ = List.map encU (List.set p1.1 (Int.toNat p1.2.1) x1) by (exact eq_by)) h (fun x4 hx4 h => ?_)
  refine avb ?_
  refine ldp_raw (show _ = List.map encU (List.set p1.1 (Int.toNat p1.2.1) x1) by (exact eq_by)) hx4 ?_
  refine avb ?_
  exact lbk hfp1 h
 ·have h := finr hfp1 h
  obtain rfl := some_in h
  exact ⟨cons_eq (some_arr (by (exact eq_by))) (rfl), by (exact eq_by)⟩

theorem i_Backwards_ok (N : Nat) (v0 : List UInt8) {r : (List UInt8)} (h : i_Backwards N v0 = some r) : Pure Tryz.prog 211 [DV.one (D.s v0)] (DV.one (D.s r)) := by
 refine pure_of_walk Tryz.tok Tryz.mixed Tryz.func211 (by kernel_rfl) fun W => ?_
 unfold i_Backwards at h
 refine avb ?_
 refine lns (v0.length : Int) ?_
 refine avb ?_
 refine brb h ?_ ?_<;>intro _ h
 ·cases h;exact eq_by
 ·refine chk_sel h (fun q => Nat.le_trans q (by decide)) (fun h => ?_)
  refine avb ?_
  refine qtb ?_;refine turn_sel (O := fun (x1 : (List (UInt8))) => [some (.arr 1 (List.map encU x1) true)]) (V := fun (x1 : (List (UInt8))) => .tup []) h ⟨flat_map (fun _ => rfl), trivial⟩ (fun x1 h1 => (g_slices_Reverse_Sbyte_byte_ok N v0 h1)) (fun x1 hx1 h => ?_)
  refine avb ?_
  refine ⟨x1, (by (exact eq_by)), ?_⟩
  refine avb ?_
  cases h;exact eq_by

theorem i_TurnGrid_ok (N : Nat) (v0 : Gx.Grid) {r : Gx.Grid} (h : i_TurnGrid N v0 = some r) : Pure Tryz.prog 175 [DV.agg (Gx.Grid.enc v0)] (DV.agg (Gx.Grid.enc r)) := by
 refine pure_of_walk Tryz.tok Tryz.mixed Tryz.func175 (by kernel_rfl) fun W => ?_
 unfold i_TurnGrid at h
 refine avb ?_
 refine plb ?_;refine call_sel (E := fun (x : Bool) => DV.one (D.b x)) h (fun x1 h1 => (i_IsGrid_ok N v0 h1)) (fun x1 hx1 h => ?_)
 refine avb ?_
 refine brb h ?_ ?_<;>intro _ h
 ·cases h;exact eq_by
 ·refine plb ?_;refine call_sel (E := fun (x : (List UInt8)) => DV.one (D.s x)) h (fun x2 h1 => (i_Backwards_ok N v0.mCells h1)) (fun x2 hx2 h => ?_)
  refine avb ?_
  cases h;exact eq_by

theorem i_IsSymmetric_ok (N : Nat) (v0 : Gx.Grid) {r : Bool} (h : i_IsSymmetric N v0 = some r) : Pure Tryz.prog 139 [DV.agg (Gx.Grid.enc v0)] (DV.one (D.b r)) := by
 refine pure_of_walk Tryz.tok Tryz.mixed Tryz.func139 (by kernel_rfl) fun W => ?_
 unfold i_IsSymmetric at h
 refine avb ?_
 refine plb ?_;refine call_sel (E := fun (x : Bool) => DV.one (D.b x)) h (fun x1 h1 => (i_IsGrid_ok N v0 h1)) (fun x1 hx1 h => ?_)
 refine avb ?_
 refine brb h ?_ ?_<;>intro _ h
 ·refine plb ?_;refine call_sel (E := fun (x : Gx.Grid) => DV.agg (Gx.Grid.enc x)) h (fun x2 h1 => (i_TurnGrid_ok N v0 h1)) (fun x2 hx2 h => ?_)
  refine avb ?_
  cases h;exact eq_by
 ·cases h;exact eq_by

theorem i_at_ok (N : Nat) (v0 : Int) (v1 : Int) {r : Bool} (h : i_at N v0 v1 = some r) : Pure Tryz.prog 178 [DV.one (D.i v0), DV.one (D.i v1)] (DV.one (D.b r)) := by
 refine pure_of_walk Tryz.tok Tryz.mixed Tryz.func178 (by kernel_rfl) fun W => ?_
 unfold i_at at h
 refine avb ?_
 refine brb h ?_ ?_<;>intro _ h
 ·cases h;exact eq_by
 ·cases h;exact eq_by

theorem i_PartsOf_1_B_ok (N : Nat) (r_i_PartsOf_1 : Int → Int → Gx.Grid → (List (Bool)) → Option ((List (Bool)))) (hr_i_PartsOf_1 : ∀ a0 a1 a2 a3 r, r_i_PartsOf_1 a0 a1 a2 a3 = some r → Turn Tryz.prog 212 [.d (D.i a0), .d (D.i a1), .ptr 0 0 0, .ptr 1 0 0, .ptr 2 0 0] [.box [.d (D.i a2.mRows), .d (D.i a2.mCols), .d (D.s a2.mCells)], .box [.sl 3], .box [.fn 212 [.ptr 0 0 0, .ptr 1 0 0, .ptr 2 0 0]], .arr 1 (List.map Gx.encB a3) true] [some (.box [.d (D.i a2.mRows), .d (D.i a2.mCols), .d (D.s a2.mCells)]), some (.box [.sl 3]), some (.box [.fn 212 [.ptr 0 0 0, .ptr 1 0 0, .ptr 2 0 0]]), some (.arr 1 (List.map Gx.encB r) true)] (.tup [])) (v0 : Int) (v1 : Int) (c0 : Gx.Grid) (c1 : List (Bool)) {r : (List (Bool))} (h : i_PartsOf_1_B N r_i_PartsOf_1 v0 v1 c0 c1 = some r) : Turn Tryz.prog 212 [.d (D.i v0), .d (D.i v1), .ptr 0 0 0, .ptr 1 0 0, .ptr 2 0 0] [.box [.d (D.i c0.mRows), .d (D.i c0.mCols), .d (D.s c0.mCells)], .box [.sl 3], .box [.fn 212 [.ptr 0 0 0, .ptr 1 0 0, .ptr 2 0 0]], .arr 1 (List.map Gx.encB c1) true] [some (.box [.d (D.i c0.mRows), .d (D.i c0.mCols), .d (D.s c0.mCells)]), some (.box [.sl 3]), some (.box [.fn 212 [.ptr 0 0 0, .ptr 1 0 0, .ptr 2 0 0]]), some (.arr 1 (List.map Gx.encB r) true)] (.tup []) := by
 refine turn_of_walk Tryz.tok Tryz.mixed Tryz.func212 (by kernel_rfl) rfl fun W => ?_
 unfold i_PartsOf_1_B at h
 refine avb ?_
 refine plb ?_;refine call_sel (E := fun (x : Bool) => DV.one (D.b x)) h (fun x1 h1 => (i_at_ok N v0 c0.mRows h1)) (fun x1 hx1 h => ?_)
 refine avb ?_
 refine brb h ?_ ?_<;>intro _ h
 ·obtain rfl := some_in h
  exact ⟨cons_eq rfl (cons_eq rfl (cons_eq rfl (cons_eq (some_arr (by (exact eq_by))) (rfl)))), by (exact eq_by)⟩
 ·refine plb ?_;refine call_sel (E := fun (x : Bool) => DV.one (D.b x)) h (fun x2 h1 => (i_at_ok N v1 c0.mCols h1)) (fun x2 hx2 h => ?_)
  refine avb ?_
  refine brb h ?_ ?_<;>intro _ h
  ·obtain rfl := some_in h
   exact ⟨cons_eq rfl (cons_eq rfl (cons_eq rfl (cons_eq (some_arr (by (exact eq_by))) (rfl)))), by (exact eq_by)⟩
  ·refine idxp_sel h (fun x3 hx3 h => ?_)
   refine avb ?_
   refine ldp_sel hx3 ?_
   refine avb ?_
   refine brb h ?_ ?_<;>intro _ h
   ·obtain rfl := some_in h
    exact ⟨cons_eq rfl (cons_eq rfl (cons_eq rfl (cons_eq (some_arr (by (exact eq_by))) (rfl)))), by (exact eq_by)⟩
   ·refine chk_sel h (fun q => q) (fun h => ?_)
    refine avb ?_
    refine brb h ?_ ?_<;>intro _ h
    ·obtain rfl := some_in h
     exact ⟨cons_eq rfl (cons_eq rfl (cons_eq rfl (cons_eq (some_arr (by (exact eq_by))) (rfl)))), by (exact eq_by)⟩
    ·refine idxp_sel h (fun x4 hx4 h => ?_)
     refine avb ?_
     refine ldp_sel hx4 ?_
     refine avb ?_
     refine qtb ?_;refine turn_sel (O := fun (x5 : (List (Bool))) => [some (.box [.d (D.i c0.mRows), .d (D.i c0.mCols), .d (D.s c0.mCells)]), some (.box [.sl 3]), some (.box [.fn 212 [.ptr 0 0 0, .ptr 1 0 0, .ptr 2 0 0]]), some (.arr 1 (List.map Gx.encB x5) true)]) (V := fun (x5 : (List (Bool))) => .tup []) h ⟨flat_eq (show _ = List.map Gx.encB (List.set c1 (Int.toNat (w64 ((w64 (v0 * c0.mCols)) + v1))) true) by (exact eq_by)) (fun _ => rfl), trivial⟩ (fun x5 h1 => (turn_objs (by (exact eq_by)) (hr_i_PartsOf_1 (w64 (v0 - 1)) v1 c0 (List.set c1 (Int.toNat (w64 ((w64 (v0 * c0.mCols)) + v1))) true) _ h1))) (fun x5 hx5 h => ?_)
     refine avb ?_
     refine qtb ?_;refine turn_sel (O := fun (x6 : (List (Bool))) => [some (.box [.d (D.i c0.mRows), .d (D.i c0.mCols), .d (D.s c0.mCells)]), some (.box [.sl 3]), some (.box [.fn 212 [.ptr 0 0 0, .ptr 1 0 0, .ptr 2 0 0]]), some (.arr 1 (List.map Gx.encB x6) true)]) (V := fun (x6 : (List (Bool))) => .tup []) h ⟨flat_map (fun _ => rfl), trivial⟩ (fun x6 h1 => (hr_i_PartsOf_1 (w64 (v0 + 1)) v1 c0 x5 _ h1)) (fun x6 hx6 h => ?_)
     refine avb ?_
     refine qtb ?_;refine turn_sel (O := fun (x7 : (List (Bool))) => [some (.box [.d (D.i c0.mRows), .d (D.i c0.mCols), .d (D.s c0.mCells)]), some (.box [.sl 3]), some (.box [.fn 212 [.ptr 0 0 0, .ptr 1 0 0, .ptr 2 0 0]]), some (.arr 1 (List.map Gx.encB x7) true)]) (V := fun (x7 : (List (Bool))) => .tup []) h ⟨flat_map (fun _ => rfl), trivial⟩ (fun x7 h1 => (hr_i_PartsOf_1 v0 (w64 (v1 - 1)) c0 x6 _ h1)) (fun x7 hx7 h => ?_)
     refine avb ?_
     refine qtb ?_;refine turn_sel (O := fun (x8 : (List (Bool))) => [some (.box [.d (D.i c0.mRows), .d (D.i c0.mCols), .d (D.s c0.mCells)]), some (.box [.sl 3]), some (.box [.fn 212 [.ptr 0 0 0, .ptr 1 0 0, .ptr 2 0 0]]), some (.arr 1 (List.map Gx.encB x8) true)]) (V := fun (x8 : (List (Bool))) => .tup []) h ⟨flat_map (fun _ => rfl), trivial⟩ (fun x8 h1 => (hr_i_PartsOf_1 v0 (w64 (v1 + 1)) c0 x7 _ h1)) (fun x8 hx8 h => ?_)
     refine avb ?_
     obtain rfl := some_in h
     exact ⟨cons_eq rfl (cons_eq rfl (cons_eq rfl (cons_eq (some_arr (by (exact eq_by))) (rfl)))), by (exact eq_by)⟩

theorem i_PartsOf_1_R_ok (N : Nat) : ∀ n : Nat, (∀ a0 a1 a2 a3 r, i_PartsOf_1_R N n a0 a1 a2 a3 = some r → Turn Tryz.prog 212 [.d (D.i a0), .d (D.i a1), .ptr 0 0 0, .ptr 1 0 0, .ptr 2 0 0] [.box [.d (D.i a2.mRows), .d (D.i a2.mCols), .d (D.s a2.mCells)], .box [.sl 3], .box [.fn 212 [.ptr 0 0 0, .ptr 1 0 0, .ptr 2 0 0]], .arr 1 (List.map Gx.encB a3) true] [some (.box [.d (D.i a2.mRows), .d (D.i a2.mCols), .d (D.s a2.mCells)]), some (.box [.sl 3]), some (.box [.fn 212 [.ptr 0 0 0, .ptr 1 0 0, .ptr 2 0 0]]), some (.arr 1 (List.map Gx.encB r) true)] (.tup []))
 | 0 => fun _ _ _ _ _ h => by simp [i_PartsOf_1_R] at h
 | n + 1 => by
  have ih := i_PartsOf_1_R_ok N n
  exact fun a0 a1 a2 a3 _ h => i_PartsOf_1_B_ok N _ (ih) a0 a1 a2 a3 h

theorem i_PartsOf_1_ok (N : Nat) (v0 : Int) (v1 : Int) (v2 : Gx.Grid) (v3 : List (Bool)) {r : (List (Bool))} (h : i_PartsOf_1 N v0 v1 v2 v3 = some r) : Turn Tryz.prog 212 [.d (D.i v0), .d (D.i v1), .ptr 0 0 0, .ptr 1 0 0, .ptr 2 0 0] [.box [.d (D.i v2.mRows), .d (D.i v2.mCols), .d (D.s v2.mCells)], .box [.sl 3], .box [.fn 212 [.ptr 0 0 0, .ptr 1 0 0, .ptr 2 0 0]], .arr 1 (List.map Gx.encB v3) true] [some (.box [.d (D.i v2.mRows), .d (D.i v2.mCols), .d (D.s v2.mCells)]), some (.box [.sl 3]), some (.box [.fn 212 [.ptr 0 0 0, .ptr 1 0 0, .ptr 2 0 0]]), some (.arr 1 (List.map Gx.encB r) true)] (.tup []) :=
 (i_PartsOf_1_R_ok N N) v0 v1 v2 v3 _ h

theorem i_PartsOf_ok (N : Nat) (v0 : Gx.Grid) {r : Int} (h : i_PartsOf N v0 = some r) : Pure Tryz.prog 176 [DV.agg (Gx.Grid.enc v0)] (DV.one (D.i r)) := by
 refine pure_of_walk Tryz.tok Tryz.mixed Tryz.func176 (by kernel_rfl) fun W => ?_
 unfold i_PartsOf at h
 refine avb ?_
 refine plb ?_;refine call_sel (E := fun (x : Bool) => DV.one (D.b x)) h (fun x1 h1 => (i_IsGrid_ok N v0 h1)) (fun x1 hx1 h => ?_)
 refine avb ?_
 refine brb h ?_ ?_<;>intro _ h
 ·cases h;exact eq_by
 ·refine lns (v0.mCells.length : Int) ?_
  refine avb ?_
  refine chk_sel h (fun q => mks_ok q (by decide)) (fun h => ?_)
  refine ab0 ?_
  refine W.r_seq ?_
  refine ab0 ?_
  refine W.r_seq ?_
  refine ab0 ?_
  refine W.r_seq ?_
  refine ab0 ?_
  obtain ⟨zt5, h, gt5⟩ := bnd_some h
  refine W.r_cut (fun (t5 : Int) => ⟨[(5, .d (D.i t5))], [], 1000⟩) (fun t => t = zt5) ?_ ?_
  ·refine avb ?_
   refine lns (v0.mCells.length : Int) ?_
   refine avb ?_
   refine loop_lp (fun (p1 : (List (Bool)) × Int × Int) => ⟨[(1, .ptr 1 0 0), (3, .ptr 2 0 0), (4, .ptr 4 0 0), (5, .d (D.i p1.2.1)), (17, .d (D.i (v0.mCells.length : Int))), (18, .d (D.i p1.2.2))], [(1, some (.box [.d (D.i v0.mRows), .d (D.i v0.mCols), .d (D.s v0.mCells)])), (2, some (.box [.sl 3])), (3, some (.arr 1 (List.map Gx.encB p1.1) true)), (4, some (.box [.fn 212 [.ptr 1 0 0, .ptr 2 0 0, .ptr 4 0 0]]))], 1000⟩) h ?_ ?_
   ·exact weak_by
   intro np1 p1 yp1 h hfp1
   unfold i_PartsOf_L1 at h
   refine avb ?_
   refine br_sel h (fun _ h => ?_) (fun _ h => ?_)
   ·refine ab0 ?_
    refine W.r_seq ?_
    refine ab0 ?_
    refine W.r_seq ?_
    refine ab0 ?_
    obtain ⟨zt3, h, gt3⟩ := bnd_some h
    refine W.r_cut (fun (t3 : Bool) => ⟨[(1, .ptr 1 0 0), (3, .ptr 2 0 0), (4, .ptr 4 0 0), (5, .d (D.i p1.2.1)), (6, .d (D.i p1.2.2)), (17, .d (D.i (v0.mCells.length : Int))), (18, .d (D.i p1.2.2)), (32, .d (D.b t3))], [(1, some (.box [.d (D.i v0.mRows), .d (D.i v0.mCols), .d (D.s v0.mCells)])), (2, some (.box [.sl 3])), (3, some (.arr 1 (List.map Gx.encB p1.1) true)), (4, some (.box [.fn 212 [.ptr 1 0 0, .ptr 2 0 0, .ptr 4 0 0]]))], 1000⟩) (fun t => t = zt3) ?_ ?_
    ·refine avb ?_
     refine chk_sel h (fun q => q) (fun h => ?_)
     refine avb ?_
     refine brb h ?_ ?_<;>intro _ h
     ·refine idxp_sel h (fun x2 hx2 h => ?_)
      refine avb ?_
      refine ldp_sel hx2 ?_
      refine avb ?_
      refine cut_at (!x2) (some_in h) ?_
      exact weak_by
     ·refine cut_at (false) (some_in h) ?_
      exact weak_by
    rintro t3 rfl
    have h : _ = some _ := gt3
    refine avb ?_
    refine brb h ?_ ?_<;>intro _ h
    ·refine chk_sel h (fun q => q) (fun h => ?_)
     refine avb ?_
     refine chk_sel h (fun q => q) (fun h => ?_)
     refine avb ?_
     refine qtb ?_;refine turn_sel (O := fun (x4 : (List (Bool))) => [some (.box [.d (D.i v0.mRows), .d (D.i v0.mCols), .d (D.s v0.mCells)]), some (.box [.sl 3]), some (.box [.fn 212 [.ptr 0 0 0, .ptr 1 0 0, .ptr 2 0 0]]), some (.arr 1 (List.map Gx.encB x4) true)]) (V := fun (x4 : (List (Bool))) => .tup []) h ⟨flat_map (fun _ => rfl), trivial⟩ (fun x4 h1 => (i_PartsOf_1_ok N (w64 (Int.tdiv p1.2.2 v0.mCols)) (Int.tmod p1.2.2 v0.mCols) v0 p1.1 h1)) (fun x4 hx4 h => ?_)
     refine avb ?_
     exact lbk hfp1 h
    ·exact lbk hfp1 h
   ·refine avb ?_
    have h := finr hfp1 h
    refine cut_at (p1.2.1) (some_in h) ?_
    exact weak_by
  rintro t5 rfl
  have h : _ = some _ := gt5
  refine avb ?_
  cases h;exact eq_by

theorem i_IsConnected_ok (N : Nat) (v0 : Gx.Grid) {r : Bool} (h : i_IsConnected N v0 = some r) : Pure Tryz.prog 140 [DV.agg (Gx.Grid.enc v0)] (DV.one (D.b r)) := by
 refine pure_of_walk Tryz.tok Tryz.mixed Tryz.func140 (by kernel_rfl) fun W => ?_
 unfold i_IsConnected at h
 refine avb ?_
 refine plb ?_;refine call_sel (E := fun (x : Int) => DV.one (D.i x)) h (fun x1 h1 => (i_PartsOf_ok N v0 h1)) (fun x1 hx1 h => ?_)
 refine avb ?_
 cases h;exact eq_by

theorem i_run_ok (N : Nat) (v0 : Gx.Grid) (v1 : Int) (v2 : Bool) {r : Int} (h : i_run N v0 v1 v2 = some r) : Pure Tryz.prog 143 [DV.agg (Gx.Grid.enc v0), DV.one (D.i v1), DV.one (D.b v2)] (DV.one (D.i r)) := by
 refine pure_of_walk Tryz.tok Tryz.mixed Tryz.func143 (by kernel_rfl) fun W => ?_
 unfold i_run at h
 refine avb ?_
 refine chk_sel h (fun q => q) (fun h => ?_)
 refine ab0 ?_
 obtain ⟨zt1, h, gt1⟩ := bnd_some h
 refine W.r_cut (fun (t1 : Int × Int × Int) => ⟨[(1, .d (D.i v1)), (3, .ptr 1 0 0), (7, .d (D.i t1.1)), (8, .d (D.i t1.2.1)), (9, .d (D.i t1.2.2))], [(1, some (.box [.d (D.i v0.mRows), .d (D.i v0.mCols), .d (D.s v0.mCells)]))], 1000⟩) (fun t => t = zt1) ?_ ?_
 ·refine avb ?_
  refine brb h ?_ ?_<;>intro _ h
  ·refine chk_sel h (fun q => q) (fun h => ?_)
   refine avb ?_
   refine cut_at ((v0.mCols, w64 (Int.tdiv v1 v0.mCols), v0.mRows)) (some_in h) ?_
   exact weak_by
  ·refine cut_at ((1, Int.tmod v1 v0.mCols, v0.mCols)) (some_in h) ?_
   exact weak_by
 rintro t1 rfl
 have h : _ = some _ := gt1
 refine ab0 ?_
 obtain ⟨zt2, h, gt2⟩ := cutb_some h
 refine W.r_cut (fun (t2 : Unit) => ⟨[(1, .d (D.i v1)), (3, .ptr 1 0 0), (7, .d (D.i t1.1)), (8, .d (D.i t1.2.1)), (9, .d (D.i t1.2.2))], [(1, some (.box [.d (D.i v0.mRows), .d (D.i v0.mCols), .d (D.s v0.mCells)]))], 1000⟩) (fun t => .nx t = zt2) ?_ ?_
 ·refine avb ?_
  refine chk_sel h (fun q => q) (fun h => ?_)
  refine avb ?_
  refine brb h ?_ ?_<;>intro _ h
  ·have h := cutr gt2 h
   cases h;exact eq_by
  ·refine brb h ?_ ?_<;>intro _ h
   ·refine chk_sel h (fun q => q) (fun h => ?_)
    refine avb ?_
    refine brb h ?_ ?_<;>intro _ h
    ·have h := cutr gt2 h
     cases h;exact eq_by
    ·refine cut_at (()) (some_in h) ?_
     exact weak_by
   ·refine cut_at (()) (some_in h) ?_
    exact weak_by
 rintro t2 rfl
 have h : _ = some _ := gt2
 refine ab0 ?_
 refine W.r_seq ?_
 refine ab0 ?_
 obtain ⟨zt3, h, gt3⟩ := bnd_some h
 refine W.r_cut (fun (t3 : Int) => ⟨[(10, .d (D.i t3))], [], 1000⟩) (fun t => t = zt3) ?_ ?_
 ·refine avb ?_
  refine loop_lp (fun (p1 : Int) => ⟨[(1, .d (D.i v1)), (3, .ptr 1 0 0), (7, .d (D.i t1.1)), (8, .d (D.i t1.2.1)), (9, .d (D.i t1.2.2)), (10, .d (D.i p1))], [(1, some (.box [.d (D.i v0.mRows), .d (D.i v0.mCols), .d (D.s v0.mCells)]))], 1000⟩) h ?_ ?_
  ·exact weak_by
  intro np1 p1 yp1 h hfp1
  unfold i_run_L1 at h
  refine avb ?_
  refine brb h ?_ ?_<;>intro _ h
  ·refine chk_sel h (fun q => q) (fun h => ?_)
   refine avb ?_
   refine brb h ?_ ?_<;>intro _ h
   ·exact lbk hfp1 h
   ·have h := finr hfp1 h
    refine cut_at (p1) (some_in h) ?_
    exact weak_by
  ·have h := finr hfp1 h
   refine cut_at (p1) (some_in h) ?_
   exact weak_by
 rintro t3 rfl
 have h : _ = some _ := gt3
 refine avb ?_
 cases h;exact eq_by

theorem i_SlotsOf_ok (N : Nat) (v0 : Gx.Grid) {r : (List (Gx.Slot))} (h : i_SlotsOf N v0 = some r) : Pure Tryz.prog 103 [DV.agg (Gx.Grid.enc v0)] (DV.one (D.sl 4 (List.map Gx.Slot.enc r))) := by
 refine pure_of_walk Tryz.tok Tryz.mixed Tryz.func103 (by kernel_rfl) fun W => ?_
 unfold i_SlotsOf at h
 refine avb ?_
 refine plb ?_;refine call_sel (E := fun (x : Bool) => DV.one (D.b x)) h (fun x1 h1 => (i_IsGrid_ok N v0 h1)) (fun x1 hx1 h => ?_)
 refine avb ?_
 refine br_sel h (fun _ h => ?_) (fun _ h => ?_)
 ·refine avb ?_
  cases h;exact eq_by
 ·refine ab0 ?_
  refine W.r_seq ?_
  refine ab0 ?_
  refine W.r_seq ?_
  refine ab0 ?_
  obtain ⟨zt6, h, gt6⟩ := bnd_some h
  refine W.r_cut (fun (t6 : (List (Gx.Slot))) => ⟨[(3, .sl 1)], [(1, some (.arr 4 (List.map Gx.Slot.enc t6) true))], 1000⟩) (fun t => t = zt6) ?_ ?_
  ·refine avb ?_
   refine lns (v0.mCells.length : Int) ?_
   refine avb ?_
   refine loop_lp (fun (p1 : (List (Gx.Slot)) × Int × Int) => ⟨[(1, .ptr 1 0 0), (3, .sl 2), (4, .d (D.i p1.2.1)), (13, .d (D.i (v0.mCells.length : Int))), (14, .d (D.i p1.2.2))], [(1, some (.box [.d (D.i v0.mRows), .d (D.i v0.mCols), .d (D.s v0.mCells)])), (2, some (.arr 4 (List.map Gx.Slot.enc p1.1) true))], 1000⟩) h ?_ ?_
   ·exact weak_by
   intro np1 p1 yp1 h hfp1
   unfold i_SlotsOf_L1 at h
   refine avb ?_
   refine brb h ?_ ?_<;>intro _ h
   ·refine plb ?_;refine call_sel (E := fun (x : Int) => DV.one (D.i x)) h (fun x2 h1 => (i_run_ok N v0 p1.2.2 false h1)) (fun x2 hx2 h => ?_)
    refine avb ?_
    refine plb ?_;refine call_sel (E := fun (x : Int) => DV.one (D.i x)) h (fun x3 h1 => (i_run_ok N v0 p1.2.2 true h1)) (fun x3 hx3 h => ?_)
    refine ab0 ?_
    obtain ⟨zt4, h, gt4⟩ := bnd_some h
    refine W.r_cut (fun (t4 : Int) => ⟨[(1, .ptr 1 0 0), (3, .sl 2), (4, .d (D.i t4)), (5, .d (D.i p1.2.2)), (6, .d (D.i x2)), (7, .d (D.i x3)), (13, .d (D.i (v0.mCells.length : Int))), (14, .d (D.i p1.2.2))], [(1, some (.box [.d (D.i v0.mRows), .d (D.i v0.mCols), .d (D.s v0.mCells)])), (2, some (.arr 4 (List.map Gx.Slot.enc p1.1) true))], 1000⟩) (fun t => t = zt4) ?_ ?_
    ·refine avb ?_
     refine brb h ?_ ?_<;>intro _ h
     ·refine cut_at (w64 (p1.2.1 + 1)) (some_in h) ?_
      exact weak_by
     ·refine brb h ?_ ?_<;>intro _ h
      ·refine cut_at (w64 (p1.2.1 + 1)) (some_in h) ?_
       exact weak_by
      ·refine cut_at (p1.2.1) (some_in h) ?_
       exact weak_by
    rintro t4 rfl
    have h : _ = some _ := gt4
    refine ab0 ?_
    obtain ⟨zt5, h, gt5⟩ := bnd_some h
    refine W.r_cut (fun (t5 : (List (Gx.Slot))) => ⟨[(1, .ptr 1 0 0), (3, .sl 2), (4, .d (D.i t4)), (5, .d (D.i p1.2.2)), (7, .d (D.i x3)), (13, .d (D.i (v0.mCells.length : Int))), (14, .d (D.i p1.2.2))], [(1, some (.box [.d (D.i v0.mRows), .d (D.i v0.mCols), .d (D.s v0.mCells)])), (2, some (.arr 4 (List.map Gx.Slot.enc t5) true))], 1000⟩) (fun t => t = zt5) ?_ ?_
    ·refine avb ?_
     refine brb h ?_ ?_<;>intro _ h
     ·refine app_sel h (app_ok (by (first|rfl|simp [sub])) (by (first|rfl|simp [sub])) (by decide)) (by (intro h; cases h)) (fun h => ?_)
      refine avb ?_
      refine cut_at (p1.1 ++ ([(⟨t4, false, p1.2.2, x2⟩ : Gx.Slot)])) (some_in h) ?_
      exact weak_by
     ·refine cut_at (p1.1) (some_in h) ?_
      exact weak_by
    rintro t5 rfl
    have h : _ = some _ := gt5
    refine avb ?_
    refine brb h ?_ ?_<;>intro _ h
    ·refine app_sel h (app_ok (by (first|rfl|simp [sub])) (by (first|rfl|simp [sub])) (by decide)) (by (intro h; cases h)) (fun h => ?_)
     refine avb ?_
     exact lbk hfp1 h
    ·exact lbk hfp1 h
   ·have h := finr hfp1 h
    refine cut_at (p1.1) (some_in h) ?_
    exact weak_by
  rintro t6 rfl
  have h : _ = some _ := gt6
  refine avb ?_
  cases h;exact eq_by

theorem i_cells_ok (N : Nat) (v0 : Gx.Grid) (v1 : Gx.Slot) {r : (List (Int))} (h : i_cells N v0 v1 = some r) : Pure Tryz.prog 213 [DV.agg (Gx.Grid.enc v0), DV.agg (Gx.Slot.enc v1)] (DV.one (D.sl 1 (List.map Gx.encI r))) := by
 refine pure_of_walk Tryz.tok Tryz.mixed Tryz.func213 (by kernel_rfl) fun W => ?_
 unfold i_cells at h
 refine ab0 ?_
 refine W.r_seq ?_
 refine ab0 ?_
 refine W.r_seq ?_
 refine ab0 ?_
 obtain ⟨zt1, h, gt1⟩ := bnd_some h
 refine W.r_cut (fun (t1 : Int) => ⟨[(3, .ptr 1 0 0), (5, .d (D.i t1))], [(1, some (.box [.d (D.i v1.mNumber), .d (D.b v1.mDown), .d (D.i v1.mCell), .d (D.i v1.mLength)]))], 1000⟩) (fun t => t = zt1) ?_ ?_
 ·refine avb ?_
  refine brb h ?_ ?_<;>intro _ h
  ·refine cut_at (v0.mCols) (some_in h) ?_
   exact weak_by
  ·refine cut_at (1) (some_in h) ?_
   exact weak_by
 rintro t1 rfl
 have h : _ = some _ := gt1
 refine ab0 ?_
 refine W.r_seq ?_
 refine ab0 ?_
 obtain ⟨zt2, h, gt2⟩ := bnd_some h
 refine W.r_cut (fun (t2 : (List (Int))) => ⟨[(6, .sl 1)], [(1, some (.arr 1 (List.map Gx.encI t2) true))], 1000⟩) (fun t => t = zt2) ?_ ?_
 ·refine avb ?_
  refine loop_lp (fun (p1 : (List (Int)) × Int) => ⟨[(3, .ptr 1 0 0), (5, .d (D.i t1)), (6, .sl 2), (13, .d (D.i v1.mLength)), (14, .d (D.i p1.2))], [(1, some (.box [.d (D.i v1.mNumber), .d (D.b v1.mDown), .d (D.i v1.mCell), .d (D.i v1.mLength)])), (2, some (.arr 1 (List.map Gx.encI p1.1) true))], 1000⟩) h ?_ ?_
  ·exact weak_by
  intro np1 p1 yp1 h hfp1
  unfold i_cells_L1 at h
  refine avb ?_
  refine brb h ?_ ?_<;>intro _ h
  ·refine app_sel h (app_ok (by (first|rfl|simp [sub])) (by (first|rfl|simp [sub])) (by decide)) (by (intro h; cases h)) (fun h => ?_)
   refine avb ?_
   exact lbk hfp1 h
  ·have h := finr hfp1 h
   refine cut_at (p1.1) (some_in h) ?_
   exact weak_by
 rintro t2 rfl
 have h : _ = some _ := gt2
 refine avb ?_
 cases h;exact eq_by

theorem i_layout_ok (N : Nat) (v0 : Gx.Grid) {r : (List (List (Int)))} (h : i_layout N v0 = some r) : Pure Tryz.prog 177 [DV.agg (Gx.Grid.enc v0)] (DV.one (D.sl 1 (List.map (Gx.encL 1 Gx.encI) r))) := by
 refine pure_of_walk Tryz.tok Tryz.mixed Tryz.func177 (by kernel_rfl) fun W => ?_
 unfold i_layout at h
 refine ab0 ?_
 refine W.r_seq ?_
 refine ab0 ?_
 refine W.r_seq ?_
 refine ab0 ?_
 obtain ⟨zt4, h, gt4⟩ := bnd_some h
 refine W.r_cut (fun (t4 : (List (List (Int)))) => ⟨[(3, .sl 1)], [(1, some (.arr 1 (List.map (Gx.encL 1 Gx.encI) t4) true))], 1000⟩) (fun t => t = zt4) ?_ ?_
 ·refine avb ?_
  refine plb ?_;refine call_sel (E := fun (x : (List (Gx.Slot))) => DV.one (D.sl 4 (List.map Gx.Slot.enc x))) h (fun x1 h1 => (i_SlotsOf_ok N v0 h1)) (fun x1 hx1 h => ?_)
  refine avb ?_
  refine lns (x1.length : Int) ?_
  refine avb ?_
  refine loop_lp (fun (p1 : (List (List (Int))) × Int) => ⟨[(1, .ptr 1 0 0), (3, .sl 2), (7, .sl 3), (8, .d (D.i (x1.length : Int))), (9, .d (D.i p1.2))], [(1, some (.box [.d (D.i v0.mRows), .d (D.i v0.mCols), .d (D.s v0.mCells)])), (2, some (.arr 1 (List.map (Gx.encL 1 Gx.encI) p1.1) true)), (3, some (.arr 4 (List.map Gx.Slot.enc x1) true))], 1000⟩) h ?_ ?_
  ·exact weak_by
  intro np1 p1 yp1 h hfp1
  unfold i_layout_L1 at h
  refine avb ?_
  refine brb h ?_ ?_<;>intro _ h
  ·refine idxp_sel h (fun x2 hx2 h => ?_)
   refine avb ?_
   refine ldp_sel hx2 ?_
   refine avb ?_
   refine plb ?_;refine call_sel (E := fun (x : (List (Int))) => DV.one (D.sl 1 (List.map Gx.encI x))) h (fun x3 h1 => (i_cells_ok N v0 x2 h1)) (fun x3 hx3 h => ?_)
   refine avb ?_
   refine app_sel h (app_ok (by (first|rfl|simp [sub])) (by (first|rfl|simp [sub])) (by decide)) (by (intro h; cases h)) (fun h => ?_)
   refine avb ?_
   exact lbk hfp1 h
  ·have h := finr hfp1 h
   refine cut_at (p1.1) (some_in h) ?_
   exact weak_by
 rintro t4 rfl
 have h : _ = some _ := gt4
 refine avb ?_
 cases h;exact eq_by

theorem g_slices_Index_Sint_int_ok (N : Nat) (v0 : List (Int)) (v1 : Int) {r : Int} (h : g_slices_Index_Sint_int N v0 v1 = some r) : Pure Tryz.prog 239 [DV.one (D.sl 1 (List.map Gx.encI v0)), DV.one (D.i v1)] (DV.one (D.i r)) := by
 refine pure_of_walk Tryz.tok Tryz.mixed Tryz.func239 (by kernel_rfl) fun W => ?_
 unfold g_slices_Index_Sint_int at h
 refine ab0 ?_
 refine W.r_seq ?_
 refine ab0 ?_
 obtain ⟨zt2, h, gt2⟩ := cutb_some h
 refine W.r_cut (fun (t2 : Unit) => ⟨[], [], 1000⟩) (fun t => .nx t = zt2) ?_ ?_
 ·refine avb ?_
  refine lns (v0.length : Int) ?_
  refine avb ?_
  refine loop_lp (fun (p1 : Int) => ⟨[(0, .d (D.sl 1 (List.map Gx.encI v0))), (1, .d (D.i v1)), (7, .d (D.i (v0.length : Int))), (8, .d (D.i p1))], [], 1000⟩) h ?_ ?_
  ·exact weak_by
  intro np1 p1 yp1 h hfp1
  unfold g_slices_Index_Sint_int_L1 at h
  refine avb ?_
  refine brb h ?_ ?_<;>intro _ h
  ·refine idx_sel h (fun x1 hx1 h => ?_)
   refine avb ?_
   refine brb h ?_ ?_<;>intro _ h
   ·have h := finr hfp1 h
    have h := cutr gt2 h
    cases h;exact eq_by
   ·exact lbk hfp1 h
  ·have h := finr hfp1 h
   refine cut_at (()) (some_in h) ?_
   exact weak_by
 rintro t2 rfl
 have h : _ = some _ := gt2
 refine avb ?_
 cases h;exact eq_by

theorem g_slices_Contains_Sint_int_ok (N : Nat) (v0 : List (Int)) (v1 : Int) {r : Bool} (h : g_slices_Contains_Sint_int N v0 v1 = some r) : Pure Tryz.prog 228 [DV.one (D.sl 1 (List.map Gx.encI v0)), DV.one (D.i v1)] (DV.one (D.b r)) := by
 refine pure_of_walk Tryz.tok Tryz.mixed Tryz.func228 (by kernel_rfl) fun W => ?_
 unfold g_slices_Contains_Sint_int at h
 refine avb ?_
 refine plb ?_;refine call_sel (E := fun (x : Int) => DV.one (D.i x)) h (fun x1 h1 => (g_slices_Index_Sint_int_ok N v0 v1 h1)) (fun x1 hx1 h => ?_)
 refine avb ?_
 cases h;exact eq_by

theorem i_SlotsAt_ok (N : Nat) (v0 : Gx.Grid) (v1 : Int) {r : (List (Int))} (h : i_SlotsAt N v0 v1 = some r) : Pure Tryz.prog 214 [DV.agg (Gx.Grid.enc v0), DV.one (D.i v1)] (DV.one (D.sl 1 (List.map Gx.encI r))) := by
 refine pure_of_walk Tryz.tok Tryz.mixed Tryz.func214 (by kernel_rfl) fun W => ?_
 unfold i_SlotsAt at h
 refine ab0 ?_
 refine W.r_seq ?_
 refine ab0 ?_
 refine W.r_seq ?_
 refine ab0 ?_
 obtain ⟨zt4, h, gt4⟩ := bnd_some h
 refine W.r_cut (fun (t4 : (List (Int))) => ⟨[(5, .sl 1)], [(1, some (.arr 1 (List.map Gx.encI t4) true))], 1000⟩) (fun t => t = zt4) ?_ ?_
 ·refine avb ?_
  refine plb ?_;refine call_sel (E := fun (x : (List (List (Int)))) => DV.one (D.sl 1 (List.map (Gx.encL 1 Gx.encI) x))) h (fun x1 h1 => (i_layout_ok N v0 h1)) (fun x1 hx1 h => ?_)
  refine avb ?_
  refine lns (x1.length : Int) ?_
  refine avb ?_
  refine loop_lp (fun (p1 : (List (Int)) × Int) => ⟨[(1, .d (D.i v1)), (5, .sl 1), (9, .sl 2), (10, .d (D.i (x1.length : Int))), (11, .d (D.i p1.2))], [(1, some (.arr 1 (List.map Gx.encI p1.1) true)), (2, some (.arr 1 (List.map (Gx.encL 1 Gx.encI) x1) true))], 1000⟩) h ?_ ?_
  ·exact weak_by
  intro np1 p1 yp1 h hfp1
  unfold i_SlotsAt_L1 at h
  refine avb ?_
  refine brb h ?_ ?_<;>intro _ h
  ·refine idxp_sel h (fun x2 hx2 h => ?_)
   refine avb ?_
   refine ldp_sel hx2 ?_
   refine avb ?_
   refine plb ?_;refine call_sel (E := fun (x : Bool) => DV.one (D.b x)) h (fun x3 h1 => (g_slices_Contains_Sint_int_ok N x2 v1 h1)) (fun x3 hx3 h => ?_)
   refine avb ?_
   refine brb h ?_ ?_<;>intro _ h
   ·refine app_sel h (app_ok (by (first|rfl|simp [sub])) (by (first|rfl|simp [sub])) (by decide)) (by (intro h; cases h)) (fun h => ?_)
    refine avb ?_
    exact lbk hfp1 h
   ·exact lbk hfp1 h
  ·have h := finr hfp1 h
   refine cut_at (p1.1) (some_in h) ?_
   exact weak_by
 rintro t4 rfl
 have h : _ = some _ := gt4
 refine avb ?_
 cases h;exact eq_by

theorem i_IsChecked_ok (N : Nat) (v0 : Gx.Grid) (v1 : Int) {r : Bool} (h : i_IsChecked N v0 v1 = some r) : Pure Tryz.prog 179 [DV.agg (Gx.Grid.enc v0), DV.one (D.i v1)] (DV.one (D.b r)) := by
 refine pure_of_walk Tryz.tok Tryz.mixed Tryz.func179 (by kernel_rfl) fun W => ?_
 unfold i_IsChecked at h
 refine avb ?_
 refine plb ?_;refine call_sel (E := fun (x : (List (Int))) => DV.one (D.sl 1 (List.map Gx.encI x))) h (fun x1 h1 => (i_SlotsAt_ok N v0 v1 h1)) (fun x1 hx1 h => ?_)
 refine avb ?_
 refine lns (x1.length : Int) ?_
 refine avb ?_
 cases h;exact eq_by

theorem i_UncheckedIn_ok (N : Nat) (v0 : Gx.Grid) (v1 : Int) {r : Int} (h : i_UncheckedIn N v0 v1 = some r) : Pure Tryz.prog 141 [DV.agg (Gx.Grid.enc v0), DV.one (D.i v1)] (DV.one (D.i r)) := by
 refine pure_of_walk Tryz.tok Tryz.mixed Tryz.func141 (by kernel_rfl) fun W => ?_
 unfold i_UncheckedIn at h
 refine avb ?_
 refine plb ?_;refine call_sel (E := fun (x : (List (List (Int)))) => DV.one (D.sl 1 (List.map (Gx.encL 1 Gx.encI) x))) h (fun x1 h1 => (i_layout_ok N v0 h1)) (fun x1 hx1 h => ?_)
 refine avb ?_
 refine lns (x1.length : Int) ?_
 refine avb ?_
 refine plb ?_;refine call_sel (E := fun (x : Bool) => DV.one (D.b x)) h (fun x2 h1 => (i_at_ok N v1 (x1.length : Int) h1)) (fun x2 hx2 h => ?_)
 refine avb ?_
 refine br_sel h (fun _ h => ?_) (fun _ h => ?_)
 ·refine avb ?_
  cases h;exact eq_by
 ·refine ab0 ?_
  refine W.r_seq ?_
  refine ab0 ?_
  obtain ⟨zt6, h, gt6⟩ := bnd_some h
  refine W.r_cut (fun (t6 : Int) => ⟨[(6, .d (D.i t6))], [], 1000⟩) (fun t => t = zt6) ?_ ?_
  ·refine avb ?_
   refine idxp_sel h (fun x3 hx3 h => ?_)
   refine avb ?_
   refine ldp_sel hx3 ?_
   refine avb ?_
   refine lns (x3.length : Int) ?_
   refine avb ?_
   refine loop_lp (fun (p1 : Int × Int) => ⟨[(2, .ptr 1 0 0), (6, .d (D.i p1.1)), (19, .d (D.sl 1 (List.map Gx.encI x3))), (20, .d (D.i (x3.length : Int))), (21, .d (D.i p1.2))], [(1, some (.box [.d (D.i v0.mRows), .d (D.i v0.mCols), .d (D.s v0.mCells)]))], 1000⟩) h ?_ ?_
   ·exact weak_by
   intro np1 p1 yp1 h hfp1
   unfold i_UncheckedIn_L1 at h
   refine avb ?_
   refine brb h ?_ ?_<;>intro _ h
   ·refine idx_sel h (fun x4 hx4 h => ?_)
    refine avb ?_
    refine plb ?_;refine call_sel (E := fun (x : Bool) => DV.one (D.b x)) h (fun x5 h1 => (i_IsChecked_ok N v0 x4 h1)) (fun x5 hx5 h => ?_)
    refine avb ?_
    refine brb h ?_ ?_<;>intro _ h
    ·exact lbk hfp1 h
    ·exact lbk hfp1 h
   ·have h := finr hfp1 h
    refine cut_at (p1.1) (some_in h) ?_
    exact weak_by
  rintro t6 rfl
  have h : _ = some _ := gt6
  refine avb ?_
  cases h;exact eq_by

theorem i_isLetter_ok (N : Nat) (v0 : Int) {r : Bool} (h : i_isLetter N v0 = some r) : Pure Tryz.prog 180 [DV.one (D.u8 v0)] (DV.one (D.b r)) := by
 refine pure_of_walk Tryz.tok Tryz.mixed Tryz.func180 (by kernel_rfl) fun W => ?_
 unfold i_isLetter at h
 refine avb ?_
 refine brb h ?_ ?_<;>intro _ h
 ·cases h;exact eq_by
 ·cases h;exact eq_by

theorem i_alone_ok (N : Nat) (v0 : Gx.Grid) (v1 : List UInt8) {r : Bool} (h : i_alone N v0 v1 = some r) : Pure Tryz.prog 142 [DV.agg (Gx.Grid.enc v0), DV.one (D.s v1)] (DV.one (D.b r)) := by
 refine pure_of_walk Tryz.tok Tryz.mixed Tryz.func142 (by kernel_rfl) fun W => ?_
 unfold i_alone at h
 refine ab0 ?_
 refine W.r_seq ?_
 refine ab0 ?_
 refine W.r_seq ?_
 refine ab0 ?_
 obtain ⟨zt5, h, gt5⟩ := bnd_some h
 refine W.r_cut (fun (t5 : (List (Int × Int))) => ⟨[(1, .d (D.s v1)), (2, .ptr 1 0 0), (5, .sl 2)], [(1, some (.box [.d (D.i v0.mRows), .d (D.i v0.mCols), .d (D.s v0.mCells)])), (2, some (.mp t5))], 1000⟩) (fun t => t = zt5) ?_ ?_
 ·refine avb ?_
  refine plb ?_;refine call_sel (E := fun (x : (List (List (Int)))) => DV.one (D.sl 1 (List.map (Gx.encL 1 Gx.encI) x))) h (fun x1 h1 => (i_layout_ok N v0 h1)) (fun x1 hx1 h => ?_)
  refine avb ?_
  refine lns (x1.length : Int) ?_
  refine avb ?_
  refine loop_lp (fun (p1 : (List (Int × Int)) × Int) => ⟨[(1, .d (D.s v1)), (2, .ptr 1 0 0), (5, .sl 2), (13, .sl 3), (14, .d (D.i (x1.length : Int))), (15, .d (D.i p1.2))], [(1, some (.box [.d (D.i v0.mRows), .d (D.i v0.mCols), .d (D.s v0.mCells)])), (2, some (.mp p1.1)), (3, some (.arr 1 (List.map (Gx.encL 1 Gx.encI) x1) true))], 1000⟩) h ?_ ?_
  ·exact weak_by
  intro np1 p1 yp1 h hfp1
  unfold i_alone_L1 at h
  refine avb ?_
  refine br_sel h (fun _ h => ?_) (fun _ h => ?_)
  ·refine ab0 ?_
   obtain ⟨zt4, h, gt4⟩ := bnd_some h
   refine W.r_cut (fun (t4 : (List (Int × Int))) => ⟨[(1, .d (D.s v1)), (2, .ptr 1 0 0), (5, .sl 2), (13, .sl 3), (14, .d (D.i (x1.length : Int))), (15, .d (D.i p1.2))], [(1, some (.box [.d (D.i v0.mRows), .d (D.i v0.mCols), .d (D.s v0.mCells)])), (2, some (.mp t4)), (3, some (.arr 1 (List.map (Gx.encL 1 Gx.encI) x1) true))], 1000⟩) (fun t => t = zt4) ?_ ?_
   ·refine avb ?_
    refine idxp_sel h (fun x2 hx2 h => ?_)
    refine avb ?_
    refine ldp_sel hx2 ?_
    refine avb ?_
    refine lns (x2.length : Int) ?_
    refine avb ?_
    refine loop_lp (fun (p2 : (List (Int × Int)) × Int) => ⟨[(1, .d (D.s v1)), (2, .ptr 1 0 0), (5, .sl 2), (13, .sl 3), (14, .d (D.i (x1.length : Int))), (15, .d (D.i p1.2)), (19, .d (D.sl 1 (List.map Gx.encI x2))), (20, .d (D.i (x2.length : Int))), (21, .d (D.i p2.2))], [(1, some (.box [.d (D.i v0.mRows), .d (D.i v0.mCols), .d (D.s v0.mCells)])), (2, some (.mp p2.1)), (3, some (.arr 1 (List.map (Gx.encL 1 Gx.encI) x1) true))], 1000⟩) h ?_ ?_
    ·exact weak_by
    intro np2 p2 yp2 h hfp2
    unfold i_alone_L2 at h
    refine avb ?_
    refine brb h ?_ ?_<;>intro _ h
    ·refine idx_sel h (fun x3 hx3 h => ?_)
     refine avb ?_
     exact lbk hfp2 h
    ·have h := finr hfp2 h
     refine cut_at (p2.1) (some_in h) ?_
     exact weak_by
   rintro t4 rfl
   have h : _ = some _ := gt4
   refine avb ?_
   exact lbk hfp1 h
  ·refine avb ?_
   have h := finr hfp1 h
   refine cut_at (p1.1) (some_in h) ?_
   exact weak_by
 rintro t5 rfl
 have h : _ = some _ := gt5
 refine ab0 ?_
 obtain ⟨zt7, h, gt7⟩ := cutb_some h
 refine W.r_cut (fun (t7 : Unit) => ⟨[], [], 1000⟩) (fun t => .nx t = zt7) ?_ ?_
 ·refine avb ?_
  refine lns (v0.mCells.length : Int) ?_
  refine avb ?_
  refine loop_lp (fun (p3 : Int) => ⟨[(1, .d (D.s v1)), (2, .ptr 1 0 0), (5, .sl 2), (31, .d (D.i (v0.mCells.length : Int))), (32, .d (D.i p3))], [(1, some (.box [.d (D.i v0.mRows), .d (D.i v0.mCols), .d (D.s v0.mCells)])), (2, some (.mp t5))], 1000⟩) h ?_ ?_
  ·exact weak_by
  intro np3 p3 yp3 h hfp3
  unfold i_alone_L3 at h
  refine avb ?_
  refine brb h ?_ ?_<;>intro _ h
  ·refine chk_sel h (fun q => q) (fun h => ?_)
   refine avb ?_
   refine brb h ?_ ?_<;>intro _ h
   ·refine brb h ?_ ?_<;>intro _ h
    ·refine chk_sel h (fun q => q) (fun h => ?_)
     refine avb ?_
     refine plb ?_;refine call_sel (E := fun (x : Bool) => DV.one (D.b x)) h (fun x6 h1 => (i_isLetter_ok N (byteI v1 p3) h1)) (fun x6 hx6 h => ?_)
     refine avb ?_
     refine brb h ?_ ?_<;>intro _ h
     ·have h := finr hfp3 h
      have h := cutr gt7 h
      cases h;exact eq_by
     ·exact lbk hfp3 h
    ·exact lbk hfp3 h
   ·exact lbk hfp3 h
  ·have h := finr hfp3 h
   refine cut_at (()) (some_in h) ?_
   exact weak_by
 rintro t7 rfl
 have h : _ = some _ := gt7
 refine avb ?_
 cases h;exact eq_by

theorem i_FormOf_ok (N : Nat) (v0 : Gx.Grid) {r : Int} (h : i_FormOf N v0 = some r) : Pure Tryz.prog 102 [DV.agg (Gx.Grid.enc v0)] (DV.one (D.i r)) := by
 refine pure_of_walk Tryz.tok Tryz.mixed Tryz.func102 (by kernel_rfl) fun W => ?_
 unfold i_FormOf at h
 refine avb ?_
 refine plb ?_;refine call_sel (E := fun (x : Bool) => DV.one (D.b x)) h (fun x1 h1 => (i_IsGrid_ok N v0 h1)) (fun x1 hx1 h => ?_)
 refine avb ?_
 refine brb h ?_ ?_<;>intro _ h
 ·cases h;exact eq_by
 ·refine plb ?_;refine call_sel (E := fun (x : Bool) => DV.one (D.b x)) h (fun x2 h1 => (i_IsSymmetric_ok N v0 h1)) (fun x2 hx2 h => ?_)
  refine avb ?_
  refine brb h ?_ ?_<;>intro _ h
  ·cases h;exact eq_by
  ·refine plb ?_;refine call_sel (E := fun (x : Bool) => DV.one (D.b x)) h (fun x3 h1 => (i_IsConnected_ok N v0 h1)) (fun x3 hx3 h => ?_)
   refine avb ?_
   refine brb h ?_ ?_<;>intro _ h
   ·cases h;exact eq_by
   ·refine plb ?_;refine call_sel (E := fun (x : (List (Gx.Slot))) => DV.one (D.sl 4 (List.map Gx.Slot.enc x))) h (fun x4 h1 => (i_SlotsOf_ok N v0 h1)) (fun x4 hx4 h => ?_)
    refine ab0 ?_
    obtain ⟨zt6, h, gt6⟩ := cutb_some h
    refine W.r_cut (fun (t6 : Unit) => ⟨[(1, .ptr 1 0 0), (3, .sl 2)], [(1, some (.box [.d (D.i v0.mRows), .d (D.i v0.mCols), .d (D.s v0.mCells)])), (2, some (.arr 4 (List.map Gx.Slot.enc x4) true))], 1000⟩) (fun t => .nx t = zt6) ?_ ?_
    ·refine avb ?_
     refine lns (x4.length : Int) ?_
     refine avb ?_
     refine loop_lp (fun (p1 : Int) => ⟨[(1, .ptr 1 0 0), (3, .sl 2), (22, .sl 2), (23, .d (D.i (x4.length : Int))), (24, .d (D.i p1))], [(1, some (.box [.d (D.i v0.mRows), .d (D.i v0.mCols), .d (D.s v0.mCells)])), (2, some (.arr 4 (List.map Gx.Slot.enc x4) true))], 1000⟩) h ?_ ?_
     ·exact weak_by
     intro np1 p1 yp1 h hfp1
     unfold i_FormOf_L1 at h
     refine avb ?_
     refine brb h ?_ ?_<;>intro _ h
     ·refine idxp_sel h (fun x5 hx5 h => ?_)
      refine avb ?_
      refine ldp_sel hx5 ?_
      refine avb ?_
      refine brb h ?_ ?_<;>intro _ h
      ·have h := finr hfp1 h
       have h := cutr gt6 h
       cases h;exact eq_by
      ·exact lbk hfp1 h
     ·have h := finr hfp1 h
      refine cut_at (()) (some_in h) ?_
      exact weak_by
    rintro t6 rfl
    have h : _ = some _ := gt6
    refine ab0 ?_
    obtain ⟨zt9, h, gt9⟩ := cutb_some h
    refine W.r_cut (fun (t9 : Unit) => ⟨[(1, .ptr 1 0 0)], [(1, some (.box [.d (D.i v0.mRows), .d (D.i v0.mCols), .d (D.s v0.mCells)]))], 1000⟩) (fun t => .nx t = zt9) ?_ ?_
    ·refine avb ?_
     refine lns (x4.length : Int) ?_
     refine avb ?_
     refine loop_lp (fun (p2 : Int) => ⟨[(1, .ptr 1 0 0), (32, .sl 2), (33, .d (D.i (x4.length : Int))), (34, .d (D.i p2))], [(1, some (.box [.d (D.i v0.mRows), .d (D.i v0.mCols), .d (D.s v0.mCells)])), (2, some (.arr 4 (List.map Gx.Slot.enc x4) true))], 1000⟩) h ?_ ?_
     ·exact weak_by
     intro np2 p2 yp2 h hfp2
     unfold i_FormOf_L2 at h
     refine avb ?_
     refine brb h ?_ ?_<;>intro _ h
     ·refine idxp_sel h (fun x7 hx7 h => ?_)
      refine avb ?_
      refine ldp_sel hx7 ?_
      refine avb ?_
      refine plb ?_;refine call_sel (E := fun (x : Int) => DV.one (D.i x)) h (fun x8 h1 => (i_UncheckedIn_ok N v0 p2 h1)) (fun x8 hx8 h => ?_)
      refine avb ?_
      refine brb h ?_ ?_<;>intro _ h
      ·have h := finr hfp2 h
       have h := cutr gt9 h
       cases h;exact eq_by
      ·exact lbk hfp2 h
     ·have h := finr hfp2 h
      refine cut_at (()) (some_in h) ?_
      exact weak_by
    rintro t9 rfl
    have h : _ = some _ := gt9
    refine avb ?_
    refine plb ?_;refine call_sel (E := fun (x : Bool) => DV.one (D.b x)) h (fun x10 h1 => (i_alone_ok N v0 v0.mCells h1)) (fun x10 hx10 h => ?_)
    refine avb ?_
    refine brb h ?_ ?_<;>intro _ h
    ·cases h;exact eq_by
    ·cases h;exact eq_by

theorem i_IsWord_ok (N : Nat) (v0 : List UInt8) {r : Bool} (h : i_IsWord N v0 = some r) : Pure Tryz.prog 201 [DV.one (D.s v0)] (DV.one (D.b r)) := by
 refine pure_of_walk Tryz.tok Tryz.mixed Tryz.func201 (by kernel_rfl) fun W => ?_
 unfold i_IsWord at h
 refine avb ?_
 refine lns (v0.length : Int) ?_
 refine avb ?_
 refine plb ?_;refine call_sel (E := fun (x : Bool) => DV.one (D.b x)) h (fun x1 h1 => (i_InRange_ok N (v0.length : Int) 1 8 h1)) (fun x1 hx1 h => ?_)
 refine avb ?_
 refine br_sel h (fun _ h => ?_) (fun _ h => ?_)
 ·refine avb ?_
  cases h;exact eq_by
 ·refine ab0 ?_
  obtain ⟨zt3, h, gt3⟩ := cutb_some h
  refine W.r_cut (fun (t3 : Unit) => ⟨[], [], 1000⟩) (fun t => .nx t = zt3) ?_ ?_
  ·refine avb ?_
   refine lns (v0.length : Int) ?_
   refine avb ?_
   refine loop_lp (fun (p1 : Int) => ⟨[(0, .d (D.s v0)), (9, .d (D.i (v0.length : Int))), (10, .d (D.i p1))], [], 1000⟩) h ?_ ?_
   ·exact weak_by
   intro np1 p1 yp1 h hfp1
   unfold i_IsWord_L1 at h
   refine avb ?_
   refine brb h ?_ ?_<;>intro _ h
   ·refine chk_sel h (fun q => q) (fun h => ?_)
    refine avb ?_
    refine plb ?_;refine call_sel (E := fun (x : Bool) => DV.one (D.b x)) h (fun x2 h1 => (i_isLetter_ok N (byteI v0 p1) h1)) (fun x2 hx2 h => ?_)
    refine avb ?_
    refine brb h ?_ ?_<;>intro _ h
    ·have h := finr hfp1 h
     have h := cutr gt3 h
     cases h;exact eq_by
    ·exact lbk hfp1 h
   ·have h := finr hfp1 h
    refine cut_at (()) (some_in h) ?_
    exact weak_by
  rintro t3 rfl
  have h : _ = some _ := gt3
  refine avb ?_
  cases h;exact eq_by

theorem i_needsWord_ok (N : Nat) (v0 : Int) {r : Bool} (h : i_needsWord N v0 = some r) : Pure Tryz.prog 202 [DV.one (D.i v0)] (DV.one (D.b r)) := by
 refine pure_of_walk Tryz.tok Tryz.mixed Tryz.func202 (by kernel_rfl) fun W => ?_
 unfold i_needsWord at h
 refine avb ?_
 refine brb h ?_ ?_<;>intro _ h
 ·cases h;exact eq_by
 ·cases h;exact eq_by

theorem i_isPair_ok (N : Nat) (v0 : Int) {r : Bool} (h : i_isPair N v0 = some r) : Pure Tryz.prog 203 [DV.one (D.i v0)] (DV.one (D.b r)) := by
 refine pure_of_walk Tryz.tok Tryz.mixed Tryz.func203 (by kernel_rfl) fun W => ?_
 unfold i_isPair at h
 refine avb ?_
 refine brb h ?_ ?_<;>intro _ h
 ·cases h;exact eq_by
 ·cases h;exact eq_by

theorem i_IsPlay_ok (N : Nat) (v0 : List (Gx.Step)) {r : Bool} (h : i_IsPlay N v0 = some r) : Pure Tryz.prog 163 [DV.one (D.sl 4 (List.map Gx.Step.enc v0))] (DV.one (D.b r)) := by
 refine pure_of_walk Tryz.tok Tryz.mixed Tryz.func163 (by kernel_rfl) fun W => ?_
 unfold i_IsPlay at h
 refine avb ?_
 refine lns (v0.length : Int) ?_
 refine avb ?_
 refine plb ?_;refine call_sel (E := fun (x : Bool) => DV.one (D.b x)) h (fun x1 h1 => (i_InRange_ok N (v0.length : Int) 1 9 h1)) (fun x1 hx1 h => ?_)
 refine avb ?_
 refine br_sel h (fun _ h => ?_) (fun _ h => ?_)
 ·refine avb ?_
  cases h;exact eq_by
 ·refine ab0 ?_
  obtain ⟨zt13, h, gt13⟩ := cutb_some h
  refine W.r_cut (fun (t13 : Unit) => ⟨[], [], 1000⟩) (fun t => .nx t = zt13) ?_ ?_
  ·refine avb ?_
   refine lns (v0.length : Int) ?_
   refine avb ?_
   refine loop_lp (fun (p1 : Int) => ⟨[(0, .d (D.sl 4 (List.map Gx.Step.enc v0))), (9, .d (D.sl 4 (List.map Gx.Step.enc v0))), (10, .d (D.i (v0.length : Int))), (11, .d (D.i p1))], [], 1000⟩) h ?_ ?_
   ·exact weak_by
   intro np1 p1 yp1 h hfp1
   unfold i_IsPlay_L1 at h
   refine avb ?_
   refine brb h ?_ ?_<;>intro _ h
   ·refine idx_sel h (fun x2 hx2 h => ?_)
    refine avb ?_
    refine plb ?_;refine call_sel (E := fun (x : Bool) => DV.one (D.b x)) h (fun x3 h1 => (i_InRange_ok N x2.mKind 1 9 h1)) (fun x3 hx3 h => ?_)
    refine avb ?_
    refine brb h ?_ ?_<;>intro _ h
    ·have h := finr hfp1 h
     have h := cutr gt13 h
     cases h;exact eq_by
    ·refine br_sel h (fun _ h => ?_) (fun _ h => ?_)
     ·refine avb ?_
      refine plb ?_;refine call_sel (E := fun (x : Bool) => DV.one (D.b x)) h (fun x4 h1 => (i_IsWord_ok N x2.mWord h1)) (fun x4 hx4 h => ?_)
      refine avb ?_
      refine brb h ?_ ?_<;>intro _ h
      ·have h := finr hfp1 h
       have h := cutr gt13 h
       cases h;exact eq_by
      ·refine brb h ?_ ?_<;>intro _ h
       ·have h := finr hfp1 h
        have h := cutr gt13 h
        cases h;exact eq_by
       ·refine brb h ?_ ?_<;>intro _ h
        ·have h := finr hfp1 h
         have h := cutr gt13 h
         cases h;exact eq_by
        ·exact lbk hfp1 h
     ·refine ab0 ?_
      obtain ⟨zt8, h, gt8⟩ := cutb_some h
      refine W.r_cut (fun (t8 : Unit) => ⟨[(0, .d (D.sl 4 (List.map Gx.Step.enc v0))), (3, .d (D.i p1)), (4, .ptr 1 0 0), (9, .d (D.sl 4 (List.map Gx.Step.enc v0))), (10, .d (D.i (v0.length : Int))), (11, .d (D.i p1))], [(1, some (.box [.d (D.i x2.mKind), .d (D.s x2.mWord), .d (D.i x2.mA), .d (D.i x2.mB)]))], 1000⟩) (fun t => .nx t = zt8) ?_ ?_
      ·refine avb ?_
       refine brb h ?_ ?_<;>intro _ h
       ·have h := cutr gt8 h
        have h := finr hfp1 h
        have h := cutr gt13 h
        cases h;exact eq_by
       ·refine plb ?_;refine call_sel (E := fun (x : Bool) => DV.one (D.b x)) h (fun x5 h1 => (i_at_ok N x2.mA p1 h1)) (fun x5 hx5 h => ?_)
        refine avb ?_
        refine brb h ?_ ?_<;>intro _ h
        ·have h := cutr gt8 h
         have h := finr hfp1 h
         have h := cutr gt13 h
         cases h;exact eq_by
        ·refine plb ?_;refine call_sel (E := fun (x : Bool) => DV.one (D.b x)) h (fun x6 h1 => (i_needsWord_ok N x2.mKind h1)) (fun x6 hx6 h => ?_)
         refine avb ?_
         refine brb h ?_ ?_<;>intro _ h
         ·refine idx_sel h (fun x7 hx7 h => ?_)
          refine avb ?_
          refine brb h ?_ ?_<;>intro _ h
          ·have h := cutr gt8 h
           have h := finr hfp1 h
           have h := cutr gt13 h
           cases h;exact eq_by
          ·refine cut_at (()) (some_in h) ?_
           exact weak_by
         ·refine cut_at (()) (some_in h) ?_
          exact weak_by
      rintro t8 rfl
      have h : _ = some _ := gt8
      refine avb ?_
      refine plb ?_;refine call_sel (E := fun (x : Bool) => DV.one (D.b x)) h (fun x9 h1 => (i_isPair_ok N x2.mKind h1)) (fun x9 hx9 h => ?_)
      refine avb ?_
      refine brb h ?_ ?_<;>intro _ h
      ·refine plb ?_;refine call_sel (E := fun (x : Bool) => DV.one (D.b x)) h (fun x10 h1 => (i_at_ok N x2.mB p1 h1)) (fun x10 hx10 h => ?_)
       refine avb ?_
       refine brb h ?_ ?_<;>intro _ h
       ·have h := finr hfp1 h
        have h := cutr gt13 h
        cases h;exact eq_by
       ·refine plb ?_;refine call_sel (E := fun (x : Bool) => DV.one (D.b x)) h (fun x11 h1 => (i_isPair_ok N x2.mKind h1)) (fun x11 hx11 h => ?_)
        refine avb ?_
        refine brb h ?_ ?_<;>intro _ h
        ·refine brb h ?_ ?_<;>intro _ h
         ·have h := finr hfp1 h
          have h := cutr gt13 h
          cases h;exact eq_by
         ·exact lbk hfp1 h
        ·exact lbk hfp1 h
      ·refine plb ?_;refine call_sel (E := fun (x : Bool) => DV.one (D.b x)) h (fun x12 h1 => (i_isPair_ok N x2.mKind h1)) (fun x12 hx12 h => ?_)
       refine avb ?_
       refine brb h ?_ ?_<;>intro _ h
       ·refine brb h ?_ ?_<;>intro _ h
        ·have h := finr hfp1 h
         have h := cutr gt13 h
         cases h;exact eq_by
        ·exact lbk hfp1 h
       ·exact lbk hfp1 h
   ·have h := finr hfp1 h
    refine cut_at (()) (some_in h) ?_
    exact weak_by
  rintro t13 rfl
  have h : _ = some _ := gt13
  refine avb ?_
  cases h;exact eq_by

theorem i_IsClue_ok (N : Nat) (v0 : Gx.Clue) {r : Bool} (h : i_IsClue N v0 = some r) : Pure Tryz.prog 124 [DV.agg (Gx.Clue.enc v0)] (DV.one (D.b r)) := by
 refine pure_of_walk Tryz.tok Tryz.mixed Tryz.func124 (by kernel_rfl) fun W => ?_
 unfold i_IsClue at h
 refine avb ?_
 refine plb ?_;refine call_sel (E := fun (x : Bool) => DV.one (D.b x)) h (fun x1 h1 => (i_InRange_ok N v0.mSense 1 99 h1)) (fun x1 hx1 h => ?_)
 refine avb ?_
 refine brb h ?_ ?_<;>intro _ h
 ·refine plb ?_;refine call_sel (E := fun (x : Bool) => DV.one (D.b x)) h (fun x2 h1 => (i_IsPlay_ok N v0.mPlay h1)) (fun x2 hx2 h => ?_)
  refine avb ?_
  cases h;exact eq_by
 ·cases h;exact eq_by

theorem i_IsPuzzle_1_ok (N : Nat) (v0 : Gx.Clue) {r : Bool} (h : i_IsPuzzle_1 N v0 = some r) : Pure Tryz.prog 190 [DV.agg (Gx.Clue.enc v0)] (DV.one (D.b r)) := by
 refine pure_of_walk Tryz.tok Tryz.mixed Tryz.func190 (by kernel_rfl) fun W => ?_
 unfold i_IsPuzzle_1 at h
 refine avb ?_
 refine plb ?_;refine call_sel (E := fun (x : Bool) => DV.one (D.b x)) h (fun x1 h1 => (i_IsClue_ok N v0 h1)) (fun x1 hx1 h => ?_)
 refine avb ?_
 cases h;exact eq_by

theorem g_slices_IndexFunc_Simpl_Clue_impl_Clue_ok0 (N : Nat) (v0 : List (Gx.Clue)) (v1 : (Gx.Clue) → Option Bool) (fv1 : FuncId) (hv1 : ∀ a0 r, v1 a0 = some r → Pure Tryz.prog fv1 [DV.agg (Gx.Clue.enc a0)] (DV.one (D.b r))) {r : Int} (h : g_slices_IndexFunc_Simpl_Clue_impl_Clue N v0 v1 = some r) : Pure Tryz.prog 217 [DV.one (D.sl 2 (List.map Gx.Clue.enc v0)), DV.fn fv1 []] (DV.one (D.i r)) := by
 refine pure_of_walk Tryz.tok Tryz.mixed Tryz.func217 (by kernel_rfl) fun W => ?_
 unfold g_slices_IndexFunc_Simpl_Clue_impl_Clue at h
 refine ab0 ?_
 refine W.r_seq ?_
 refine ab0 ?_
 obtain ⟨zt3, h, gt3⟩ := cutb_some h
 refine W.r_cut (fun (t3 : Unit) => ⟨[], [], 1000⟩) (fun t => .nx t = zt3) ?_ ?_
 ·refine avb ?_
  refine lns (v0.length : Int) ?_
  refine avb ?_
  refine loop_lp (fun (p1 : Int) => ⟨[(0, .d (D.sl 2 (List.map Gx.Clue.enc v0))), (1, .fn fv1 []), (7, .d (D.i (v0.length : Int))), (8, .d (D.i p1))], [], 1000⟩) h ?_ ?_
  ·exact weak_by
  intro np1 p1 yp1 h hfp1
  unfold g_slices_IndexFunc_Simpl_Clue_impl_Clue_L1 at h
  refine avb ?_
  refine brb h ?_ ?_<;>intro _ h
  ·refine idx_sel h (fun x1 hx1 h => ?_)
   refine avb ?_
   refine plb ?_;refine call_sel (E := fun (x : Bool) => DV.one (D.b x)) h (fun x2 h1 => (hv1 _ _ h1)) (fun x2 hx2 h => ?_)
   refine avb ?_
   refine brb h ?_ ?_<;>intro _ h
   ·have h := finr hfp1 h
    have h := cutr gt3 h
    cases h;exact eq_by
   ·exact lbk hfp1 h
  ·have h := finr hfp1 h
   refine cut_at (()) (some_in h) ?_
   exact weak_by
 rintro t3 rfl
 have h : _ = some _ := gt3
 refine avb ?_
 cases h;exact eq_by

theorem g_slices_ContainsFunc_Simpl_Clue_impl_Clue_ok0 (N : Nat) (v0 : List (Gx.Clue)) (v1 : (Gx.Clue) → Option Bool) (fv1 : FuncId) (hv1 : ∀ a0 r, v1 a0 = some r → Pure Tryz.prog fv1 [DV.agg (Gx.Clue.enc a0)] (DV.one (D.b r))) {r : Bool} (h : g_slices_ContainsFunc_Simpl_Clue_impl_Clue N v0 v1 = some r) : Pure Tryz.prog 189 [DV.one (D.sl 2 (List.map Gx.Clue.enc v0)), DV.fn fv1 []] (DV.one (D.b r)) := by
 refine pure_of_walk Tryz.tok Tryz.mixed Tryz.func189 (by kernel_rfl) fun W => ?_
 unfold g_slices_ContainsFunc_Simpl_Clue_impl_Clue at h
 refine avb ?_
 refine plb ?_;refine call_sel (E := fun (x : Int) => DV.one (D.i x)) h (fun x1 h1 => (g_slices_IndexFunc_Simpl_Clue_impl_Clue_ok0 N v0 v1 fv1 hv1 h1)) (fun x1 hx1 h => ?_)
 refine avb ?_
 cases h;exact eq_by

theorem i_IsPuzzle_ok (N : Nat) (v0 : Gx.Puzzle) {r : Bool} (h : i_IsPuzzle N v0 = some r) : Pure Tryz.prog 154 [DV.agg (Gx.Puzzle.enc v0)] (DV.one (D.b r)) := by
 refine pure_of_walk Tryz.tok Tryz.mixed Tryz.func154 (by kernel_rfl) fun W => ?_
 unfold i_IsPuzzle at h
 refine avb ?_
 refine plb ?_;refine call_sel (E := fun (x : Int) => DV.one (D.i x)) h (fun x1 h1 => (i_FormOf_ok N v0.mGrid h1)) (fun x1 hx1 h => ?_)
 refine avb ?_
 refine brb h ?_ ?_<;>intro _ h
 ·cases h;exact eq_by
 ·refine plb ?_;refine call_sel (E := fun (x : (List (Gx.Slot))) => DV.one (D.sl 4 (List.map Gx.Slot.enc x))) h (fun x2 h1 => (i_SlotsOf_ok N v0.mGrid h1)) (fun x2 hx2 h => ?_)
  refine avb ?_
  refine lns (x2.length : Int) ?_
  refine avb ?_
  refine lns (v0.mClues.length : Int) ?_
  refine avb ?_
  refine brb h ?_ ?_<;>intro _ h
  ·refine lns (v0.mSeals.length : Int) ?_
   refine avb ?_
   refine brb h ?_ ?_<;>intro _ h
   ·refine plb ?_;refine call_sel (E := fun (x : Bool) => DV.one (D.b x)) h (fun x3 h1 => (i_InRange_ok N v0.mSalt 1 9999 h1)) (fun x3 hx3 h => ?_)
    refine avb ?_
    refine brb h ?_ ?_<;>intro _ h
    ·refine plb ?_;refine call_sel (E := fun (x : Bool) => DV.one (D.b x)) h (fun x4 h1 => (g_slices_ContainsFunc_Simpl_Clue_impl_Clue_ok0 N v0.mClues (fun a0 => i_IsPuzzle_1 N a0) 190 (fun a0 _ hh => i_IsPuzzle_1_ok N a0 hh) h1)) (fun x4 hx4 h => ?_)
     refine avb ?_
     cases h;exact eq_by
    ·cases h;exact eq_by
   ·cases h;exact eq_by
  ·cases h;exact eq_by

theorem i_IsFill_ok (N : Nat) (v0 : Gx.Grid) (v1 : List UInt8) {r : Bool} (h : i_IsFill N v0 v1 = some r) : Pure Tryz.prog 191 [DV.agg (Gx.Grid.enc v0), DV.one (D.s v1)] (DV.one (D.b r)) := by
 refine pure_of_walk Tryz.tok Tryz.mixed Tryz.func191 (by kernel_rfl) fun W => ?_
 unfold i_IsFill at h
 refine avb ?_
 refine plb ?_;refine call_sel (E := fun (x : Bool) => DV.one (D.b x)) h (fun x1 h1 => (i_IsGrid_ok N v0 h1)) (fun x1 hx1 h => ?_)
 refine avb ?_
 refine brb h ?_ ?_<;>intro _ h
 ·cases h;exact eq_by
 ·refine lns (v1.length : Int) ?_
  refine avb ?_
  refine lns (v0.mCells.length : Int) ?_
  refine avb ?_
  refine br_sel h (fun _ h => ?_) (fun _ h => ?_)
  ·refine avb ?_
   cases h;exact eq_by
  ·refine ab0 ?_
   obtain ⟨zt3, h, gt3⟩ := cutb_some h
   refine W.r_cut (fun (t3 : Unit) => ⟨[], [], 1000⟩) (fun t => .nx t = zt3) ?_ ?_
   ·refine avb ?_
    refine lns (v1.length : Int) ?_
    refine avb ?_
    refine loop_lp (fun (p1 : Int) => ⟨[(1, .d (D.s v1)), (2, .ptr 1 0 0), (18, .d (D.i (v1.length : Int))), (19, .d (D.i p1))], [(1, some (.box [.d (D.i v0.mRows), .d (D.i v0.mCols), .d (D.s v0.mCells)]))], 1000⟩) h ?_ ?_
    ·exact weak_by
    intro np1 p1 yp1 h hfp1
    unfold i_IsFill_L1 at h
    refine avb ?_
    refine brb h ?_ ?_<;>intro _ h
    ·refine chk_sel h (fun q => q) (fun h => ?_)
     refine avb ?_
     refine chk_sel h (fun q => q) (fun h => ?_)
     refine avb ?_
     refine brb h ?_ ?_<;>intro _ h
     ·have h := finr hfp1 h
      have h := cutr gt3 h
      cases h;exact eq_by
     ·refine chk_sel h (fun q => q) (fun h => ?_)
      refine avb ?_
      refine brb h ?_ ?_<;>intro _ h
      ·refine chk_sel h (fun q => q) (fun h => ?_)
       refine avb ?_
       refine brb h ?_ ?_<;>intro _ h
       ·refine chk_sel h (fun q => q) (fun h => ?_)
        refine avb ?_
        refine plb ?_;refine call_sel (E := fun (x : Bool) => DV.one (D.b x)) h (fun x2 h1 => (i_isLetter_ok N (byteI v1 p1) h1)) (fun x2 hx2 h => ?_)
        refine avb ?_
        refine brb h ?_ ?_<;>intro _ h
        ·have h := finr hfp1 h
         have h := cutr gt3 h
         cases h;exact eq_by
        ·exact lbk hfp1 h
       ·exact lbk hfp1 h
      ·exact lbk hfp1 h
    ·have h := finr hfp1 h
     refine cut_at (()) (some_in h) ?_
     exact weak_by
   rintro t3 rfl
   have h : _ = some _ := gt3
   refine avb ?_
   cases h;exact eq_by

theorem i_openIn_ok (N : Nat) (v0 : List UInt8) {r : Int} (h : i_openIn N v0 = some r) : Pure Tryz.prog 192 [DV.one (D.s v0)] (DV.one (D.i r)) := by
 refine pure_of_walk Tryz.tok Tryz.mixed Tryz.func192 (by kernel_rfl) fun W => ?_
 unfold i_openIn at h
 refine ab0 ?_
 refine W.r_seq ?_
 refine ab0 ?_
 refine W.r_seq ?_
 refine ab0 ?_
 obtain ⟨zt1, h, gt1⟩ := bnd_some h
 refine W.r_cut (fun (t1 : Int) => ⟨[(3, .d (D.i t1))], [], 1000⟩) (fun t => t = zt1) ?_ ?_
 ·refine avb ?_
  refine lns (v0.length : Int) ?_
  refine avb ?_
  refine loop_lp (fun (p1 : Int × Int) => ⟨[(0, .d (D.s v0)), (3, .d (D.i p1.1)), (6, .d (D.i (v0.length : Int))), (7, .d (D.i p1.2))], [], 1000⟩) h ?_ ?_
  ·exact weak_by
  intro np1 p1 yp1 h hfp1
  unfold i_openIn_L1 at h
  refine avb ?_
  refine brb h ?_ ?_<;>intro _ h
  ·refine chk_sel h (fun q => q) (fun h => ?_)
   refine avb ?_
   refine brb h ?_ ?_<;>intro _ h
   ·exact lbk hfp1 h
   ·exact lbk hfp1 h
  ·have h := finr hfp1 h
   refine cut_at (p1.1) (some_in h) ?_
   exact weak_by
 rintro t1 rfl
 have h : _ = some _ := gt1
 refine avb ?_
 cases h;exact eq_by

end Lw
end Go.Proofs
