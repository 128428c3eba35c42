/- PRINTED BY gen.py (mine): their contracts. -/
import Derived.Test.YtniibgdokfnomaaGreatDoorAvPfIsQuiet1
namespace Go.Proofs
open Go Go.Av
set_option maxRecDepth 100000
set_option maxHeartbeats 40000000
set_option linter.unusedVariables false
set_option linter.unusedSimpArgs false
namespace Lw
theorem i_IsFull_ok (N : Nat) (v0 : Gx.Grid) (v1 : List UInt8) {r : Bool} (h : i_IsFull N v0 v1 = some r) : Pure Tryz.prog 155 [DV.agg (Gx.Grid.enc v0), DV.one (D.s v1)] (DV.one (D.b r)) := by
 refine pure_of_walk Tryz.tok Tryz.mixed Tryz.func155 (by kernel_rfl) fun W => ?_
 unfold i_IsFull at h
 refine avb ?_
 refine plb ?_;refine call_sel (E := fun (x : Bool) => DV.one (D.b x)) h (fun x1 h1 => (i_IsFill_ok N v0 v1 h1)) (fun x1 hx1 h => ?_)
 refine avb ?_
 refine brb h ?_ ?_<;>intro _ h
 ·refine plb ?_;refine call_sel (E := fun (x : Int) => DV.one (D.i x)) h (fun x2 h1 => (i_openIn_ok N v1 h1)) (fun x2 hx2 h => ?_)
  refine avb ?_
  cases h;exact eq_by
 ·cases h;exact eq_by

theorem i_readCells_ok (N : Nat) (v0 : List UInt8) (v1 : List (Int)) {r : (List UInt8)} (h : i_readCells N v0 v1 = some r) : Pure Tryz.prog 218 [DV.one (D.s v0), DV.one (D.sl 1 (List.map Gx.encI v1))] (DV.one (D.s r)) := by
 refine pure_of_walk Tryz.tok Tryz.mixed Tryz.func218 (by kernel_rfl) fun W => ?_
 unfold i_readCells at h
 refine ab0 ?_
 refine W.r_seq ?_
 refine ab0 ?_
 refine W.r_seq ?_
 refine ab0 ?_
 obtain ⟨zt2, h, gt2⟩ := bnd_some h
 refine W.r_cut (fun (t2 : (List (UInt8))) => ⟨[(5, .sl 1)], [(1, some (.arr 1 (List.map encU t2) true))], 1000⟩) (fun t => t = zt2) ?_ ?_
 ·refine avb ?_
  refine lns (v1.length : Int) ?_
  refine avb ?_
  refine loop_lp (fun (p1 : (List (UInt8)) × Int) => ⟨[(0, .d (D.s v0)), (5, .sl 1), (8, .d (D.sl 1 (List.map Gx.encI v1))), (9, .d (D.i (v1.length : Int))), (10, .d (D.i p1.2))], [(1, some (.arr 1 (List.map encU p1.1) true))], 1000⟩) h ?_ ?_
  ·exact weak_by
  intro np1 p1 yp1 h hfp1
  unfold i_readCells_L1 at h
  refine avb ?_
  refine brb h ?_ ?_<;>intro _ h
  ·refine idx_sel h (fun x1 hx1 h => ?_)
   refine avb ?_
   refine chk_sel h (fun q => q) (fun h => ?_)
   refine avb ?_
   refine app_sel h (app_ok (by (first|rfl|simp [sub])) (by (first|rfl|simp [sub])) (by decide)) (by (intro h; cases h)) (fun h => ?_)
   refine avb ?_
   exact lbk hfp1 h
  ·have h := finr hfp1 h
   refine cut_at (p1.1) (some_in h) ?_
   exact weak_by
 rintro t2 rfl
 have h : _ = some _ := gt2
 refine avb ?_
 refine ⟨t2, (by (exact eq_by)), ?_⟩
 refine avb ?_
 cases h;exact eq_by

theorem i_patterns_ok (N : Nat) (v0 : Gx.Grid) (v1 : List UInt8) {r : (List (List UInt8))} (h : i_patterns N v0 v1 = some r) : Pure Tryz.prog 193 [DV.agg (Gx.Grid.enc v0), DV.one (D.s v1)] (DV.one (D.sl 1 (List.map Gx.encS r))) := by
 refine pure_of_walk Tryz.tok Tryz.mixed Tryz.func193 (by kernel_rfl) fun W => ?_
 unfold i_patterns at h
 refine avb ?_
 refine plb ?_;refine call_sel (E := fun (x : Bool) => DV.one (D.b x)) h (fun x1 h1 => (i_IsFill_ok N v0 v1 h1)) (fun x1 hx1 h => ?_)
 refine avb ?_
 refine br_sel h (fun _ h => ?_) (fun _ h => ?_)
 ·refine avb ?_
  cases h;exact eq_by
 ·refine ab0 ?_
  refine W.r_seq ?_
  refine ab0 ?_
  obtain ⟨zt5, h, gt5⟩ := bnd_some h
  refine W.r_cut (fun (t5 : (List (List UInt8))) => ⟨[(5, .sl 1)], [(1, some (.arr 1 (List.map Gx.encS t5) true))], 1000⟩) (fun t => t = zt5) ?_ ?_
  ·refine avb ?_
   refine plb ?_;refine call_sel (E := fun (x : (List (List (Int)))) => DV.one (D.sl 1 (List.map (Gx.encL 1 Gx.encI) x))) h (fun x2 h1 => (i_layout_ok N v0 h1)) (fun x2 hx2 h => ?_)
   refine avb ?_
   refine lns (x2.length : Int) ?_
   refine avb ?_
   refine loop_lp (fun (p1 : (List (List UInt8)) × Int) => ⟨[(1, .d (D.s v1)), (5, .sl 1), (13, .sl 2), (14, .d (D.i (x2.length : Int))), (15, .d (D.i p1.2))], [(1, some (.arr 1 (List.map Gx.encS p1.1) true)), (2, some (.arr 1 (List.map (Gx.encL 1 Gx.encI) x2) true))], 1000⟩) h ?_ ?_
   ·exact weak_by
   intro np1 p1 yp1 h hfp1
   unfold i_patterns_L1 at h
   refine avb ?_
   refine brb h ?_ ?_<;>intro _ h
   ·refine idxp_sel h (fun x3 hx3 h => ?_)
    refine avb ?_
    refine ldp_sel hx3 ?_
    refine avb ?_
    refine plb ?_;refine call_sel (E := fun (x : (List UInt8)) => DV.one (D.s x)) h (fun x4 h1 => (i_readCells_ok N v1 x3 h1)) (fun x4 hx4 h => ?_)
    refine avb ?_
    refine app_sel h (app_ok (by (first|rfl|simp [sub])) (by (first|rfl|simp [sub])) (by decide)) (by (intro h; cases h)) (fun h => ?_)
    refine avb ?_
    exact lbk hfp1 h
   ·have h := finr hfp1 h
    refine cut_at (p1.1) (some_in h) ?_
    exact weak_by
  rintro t5 rfl
  have h : _ = some _ := gt5
  refine avb ?_
  cases h;exact eq_by

theorem i_LettersOf_ok (N : Nat) (v0 : List UInt8) {r : (List (Int))} (h : i_LettersOf N v0 = some r) : Pure Tryz.prog 232 [DV.one (D.s v0)] (DV.one (D.sl 1 (List.map Gx.encI r))) := by
 refine pure_of_walk Tryz.tok Tryz.mixed Tryz.func232 (by kernel_rfl) fun W => ?_
 unfold i_LettersOf at h
 refine ab0 ?_
 refine W.r_seq ?_
 refine ab0 ?_
 refine W.r_seq ?_
 refine ab0 ?_
 obtain ⟨zt1, h, gt1⟩ := bnd_some h
 refine W.r_cut (fun (t1 : (List (Int))) => ⟨[(3, .sl 1)], [(1, some (.arr 1 (List.map Gx.encI t1) true))], 1000⟩) (fun t => t = zt1) ?_ ?_
 ·refine avb ?_
  refine lns (v0.length : Int) ?_
  refine avb ?_
  refine loop_lp (fun (p1 : (List (Int)) × Int) => ⟨[(0, .d (D.s v0)), (3, .sl 1), (6, .d (D.i (v0.length : Int))), (7, .d (D.i p1.2))], [(1, some (.arr 1 (List.map Gx.encI p1.1) true))], 1000⟩) h ?_ ?_
  ·exact weak_by
  intro np1 p1 yp1 h hfp1
  unfold i_LettersOf_L1 at h
  refine avb ?_
  refine brb h ?_ ?_<;>intro _ h
  ·refine chk_sel h (fun q => q) (fun h => ?_)
   refine avb ?_
   refine app_sel h (app_ok (by (first|rfl|simp [sub])) (by (first|rfl|simp [sub])) (by decide)) (by (intro h; cases h)) (fun h => ?_)
   refine avb ?_
   exact lbk hfp1 h
  ·have h := finr hfp1 h
   refine cut_at (p1.1) (some_in h) ?_
   exact weak_by
 rintro t1 rfl
 have h : _ = some _ := gt1
 refine avb ?_
 cases h;exact eq_by

theorem i_Mod_ok (N : Nat) (v0 : Int) (v1 : Int) {r : Int} (h : i_Mod N v0 v1 = some r) : Pure Tryz.prog 241 [DV.one (D.i v0), DV.one (D.i v1)] (DV.one (D.i r)) := by
 refine pure_of_walk Tryz.tok Tryz.mixed Tryz.func241 (by kernel_rfl) fun W => ?_
 unfold i_Mod at h
 refine avb ?_
 refine plb ?_;refine call_sel (E := fun (x : Bool) => DV.one (D.b x)) h (fun x1 h1 => (i_InRange_ok N v1 1 1000000000000 h1)) (fun x1 hx1 h => ?_)
 refine avb ?_
 refine brb h ?_ ?_<;>intro _ h
 ·cases h;exact eq_by
 ·refine chk_sel h (fun q => q) (fun h => ?_)
  refine avb ?_
  refine chk_sel h (fun q => q) (fun h => ?_)
  refine avb ?_
  cases h;exact eq_by

theorem i_Hash_ok (N : Nat) (v0 : List (Int)) {r : Int} (h : i_Hash N v0 = some r) : Pure Tryz.prog 231 [DV.one (D.sl 1 (List.map Gx.encI v0))] (DV.one (D.i r)) := by
 refine pure_of_walk Tryz.tok Tryz.mixed Tryz.func231 (by kernel_rfl) fun W => ?_
 unfold i_Hash at h
 refine ab0 ?_
 refine W.r_seq ?_
 refine ab0 ?_
 refine W.r_seq ?_
 refine ab0 ?_
 obtain ⟨zt3, h, gt3⟩ := bnd_some h
 refine W.r_cut (fun (t3 : Int) => ⟨[(3, .d (D.i t3))], [], 1000⟩) (fun t => t = zt3) ?_ ?_
 ·refine avb ?_
  refine lns (v0.length : Int) ?_
  refine avb ?_
  refine loop_lp (fun (p1 : Int × Int) => ⟨[(3, .d (D.i p1.1)), (6, .d (D.sl 1 (List.map Gx.encI v0))), (7, .d (D.i (v0.length : Int))), (8, .d (D.i p1.2))], [], 1000⟩) h ?_ ?_
  ·exact weak_by
  intro np1 p1 yp1 h hfp1
  unfold i_Hash_L1 at h
  refine avb ?_
  refine brb h ?_ ?_<;>intro _ h
  ·refine idx_sel h (fun x1 hx1 h => ?_)
   refine avb ?_
   refine plb ?_;refine call_sel (E := fun (x : Int) => DV.one (D.i x)) h (fun x2 h1 => (i_Mod_ok N x1 2147483647 h1)) (fun x2 hx2 h => ?_)
   refine avb ?_
   refine chk_sel h (fun q => q) (fun h => ?_)
   refine avb ?_
   exact lbk hfp1 h
  ·have h := finr hfp1 h
   refine cut_at (p1.1) (some_in h) ?_
   exact weak_by
 rintro t3 rfl
 have h : _ = some _ := gt3
 refine avb ?_
 cases h;exact eq_by

theorem i_SealAnswer_ok (N : Nat) (v0 : Int) (v1 : Int) (v2 : List UInt8) {r : Int} (h : i_SealAnswer N v0 v1 v2 = some r) : Pure Tryz.prog 219 [DV.one (D.i v0), DV.one (D.i v1), DV.one (D.s v2)] (DV.one (D.i r)) := by
 refine pure_of_walk Tryz.tok Tryz.mixed Tryz.func219 (by kernel_rfl) fun W => ?_
 unfold i_SealAnswer at h
 refine avb ?_
 refine plb ?_;refine call_sel (E := fun (x : Bool) => DV.one (D.b x)) h (fun x1 h1 => (i_IsWord_ok N v2 h1)) (fun x1 hx1 h => ?_)
 refine avb ?_
 refine brb h ?_ ?_<;>intro _ h
 ·cases h;exact eq_by
 ·refine lns (v2.length : Int) ?_
  refine avb ?_
  refine plb ?_;refine call_sel (E := fun (x : (List (Int))) => DV.one (D.sl 1 (List.map Gx.encI x))) h (fun x2 h1 => (i_LettersOf_ok N v2 h1)) (fun x2 hx2 h => ?_)
  refine avb ?_
  refine app_sel h (app_ok (by (first|rfl|simp [sub])) (by (first|rfl|simp [sub])) (by decide)) (by (intro h; cases h)) (fun h => ?_)
  refine avb ?_
  refine plb ?_;refine call_sel (E := fun (x : Int) => DV.one (D.i x)) h (fun x3 h1 => (pure_args (by (exact eq_by)) (i_Hash_ok N (([v0, v1, (v2.length : Int)]) ++ x2) h1))) (fun x3 hx3 h => ?_)
  refine avb ?_
  cases h;exact eq_by

theorem i_ChecksAnswer_ok (N : Nat) (v0 : List (Int)) (v1 : Int) (v2 : Int) (v3 : List UInt8) {r : Bool} (h : i_ChecksAnswer N v0 v1 v2 v3 = some r) : Pure Tryz.prog 194 [DV.one (D.sl 1 (List.map Gx.encI v0)), DV.one (D.i v1), DV.one (D.i v2), DV.one (D.s v3)] (DV.one (D.b r)) := by
 refine pure_of_walk Tryz.tok Tryz.mixed Tryz.func194 (by kernel_rfl) fun W => ?_
 unfold i_ChecksAnswer at h
 refine avb ?_
 refine lns (v0.length : Int) ?_
 refine avb ?_
 refine plb ?_;refine call_sel (E := fun (x : Bool) => DV.one (D.b x)) h (fun x1 h1 => (i_at_ok N v2 (v0.length : Int) h1)) (fun x1 hx1 h => ?_)
 refine avb ?_
 refine brb h ?_ ?_<;>intro _ h
 ·refine plb ?_;refine call_sel (E := fun (x : Bool) => DV.one (D.b x)) h (fun x2 h1 => (i_IsWord_ok N v3 h1)) (fun x2 hx2 h => ?_)
  refine avb ?_
  refine brb h ?_ ?_<;>intro _ h
  ·refine plb ?_;refine call_sel (E := fun (x : Int) => DV.one (D.i x)) h (fun x3 h1 => (i_SealAnswer_ok N v1 v2 v3 h1)) (fun x3 hx3 h => ?_)
   refine avb ?_
   refine idx_sel h (fun x4 hx4 h => ?_)
   refine avb ?_
   cases h;exact eq_by
  ·cases h;exact eq_by
 ·cases h;exact eq_by

theorem i_RightSlots_ok (N : Nat) (v0 : Gx.Grid) (v1 : List UInt8) (v2 : List (Int)) (v3 : Int) {r : (List (Int))} (h : i_RightSlots N v0 v1 v2 v3 = some r) : Pure Tryz.prog 156 [DV.agg (Gx.Grid.enc v0), DV.one (D.s v1), DV.one (D.sl 1 (List.map Gx.encI v2)), DV.one (D.i v3)] (DV.one (D.sl 1 (List.map Gx.encI r))) := by
 refine pure_of_walk Tryz.tok Tryz.mixed Tryz.func156 (by kernel_rfl) fun W => ?_
 unfold i_RightSlots at h
 refine ab0 ?_
 refine W.r_seq ?_
 refine ab0 ?_
 refine W.r_seq ?_
 refine ab0 ?_
 obtain ⟨zt4, h, gt4⟩ := bnd_some h
 refine W.r_cut (fun (t4 : (List (Int))) => ⟨[(9, .sl 1)], [(1, some (.arr 1 (List.map Gx.encI t4) true))], 1000⟩) (fun t => t = zt4) ?_ ?_
 ·refine avb ?_
  refine plb ?_;refine call_sel (E := fun (x : (List (List UInt8))) => DV.one (D.sl 1 (List.map Gx.encS x))) h (fun x1 h1 => (i_patterns_ok N v0 v1 h1)) (fun x1 hx1 h => ?_)
  refine avb ?_
  refine lns (x1.length : Int) ?_
  refine avb ?_
  refine loop_lp (fun (p1 : (List (Int)) × Int) => ⟨[(2, .d (D.sl 1 (List.map Gx.encI v2))), (3, .d (D.i v3)), (9, .sl 1), (14, .sl 2), (15, .d (D.i (x1.length : Int))), (16, .d (D.i p1.2))], [(1, some (.arr 1 (List.map Gx.encI p1.1) true)), (2, some (.arr 1 (List.map Gx.encS x1) true))], 1000⟩) h ?_ ?_
  ·exact weak_by
  intro np1 p1 yp1 h hfp1
  unfold i_RightSlots_L1 at h
  refine avb ?_
  refine brb h ?_ ?_<;>intro _ h
  ·refine idxp_sel h (fun x2 hx2 h => ?_)
   refine avb ?_
   refine ldp_sel hx2 ?_
   refine avb ?_
   refine plb ?_;refine call_sel (E := fun (x : Bool) => DV.one (D.b x)) h (fun x3 h1 => (i_ChecksAnswer_ok N v2 v3 p1.2 x2 h1)) (fun x3 hx3 h => ?_)
   refine avb ?_
   refine brb h ?_ ?_<;>intro _ h
   ·refine app_sel h (app_ok (by (first|rfl|simp [sub])) (by (first|rfl|simp [sub])) (by decide)) (by (intro h; cases h)) (fun h => ?_)
    refine avb ?_
    exact lbk hfp1 h
   ·exact lbk hfp1 h
  ·have h := finr hfp1 h
   refine cut_at (p1.1) (some_in h) ?_
   exact weak_by
 rintro t4 rfl
 have h : _ = some _ := gt4
 refine avb ?_
 cases h;exact eq_by

theorem i_IsSolved_ok (N : Nat) (v0 : Gx.Puzzle) (v1 : List UInt8) {r : Bool} (h : i_IsSolved N v0 v1 = some r) : Pure Tryz.prog 121 [DV.agg (Gx.Puzzle.enc v0), DV.one (D.s v1)] (DV.one (D.b r)) := by
 refine pure_of_walk Tryz.tok Tryz.mixed Tryz.func121 (by kernel_rfl) fun W => ?_
 unfold i_IsSolved at h
 refine avb ?_
 refine plb ?_;refine call_sel (E := fun (x : Bool) => DV.one (D.b x)) h (fun x1 h1 => (i_IsPuzzle_ok N v0 h1)) (fun x1 hx1 h => ?_)
 refine avb ?_
 refine brb h ?_ ?_<;>intro _ h
 ·refine plb ?_;refine call_sel (E := fun (x : Bool) => DV.one (D.b x)) h (fun x2 h1 => (i_IsFull_ok N v0.mGrid v1 h1)) (fun x2 hx2 h => ?_)
  refine avb ?_
  refine brb h ?_ ?_<;>intro _ h
  ·refine plb ?_;refine call_sel (E := fun (x : (List (Int))) => DV.one (D.sl 1 (List.map Gx.encI x))) h (fun x3 h1 => (i_RightSlots_ok N v0.mGrid v1 v0.mSeals v0.mSalt h1)) (fun x3 hx3 h => ?_)
   refine avb ?_
   refine lns (x3.length : Int) ?_
   refine avb ?_
   refine lns (v0.mSeals.length : Int) ?_
   refine avb ?_
   cases h;exact eq_by
  ·cases h;exact eq_by
 ·cases h;exact eq_by

theorem i_IsIssue_ok (N : Nat) (v0 : Gx.Issue) {r : Bool} (h : i_IsIssue N v0 = some r) : Pure Tryz.prog 78 [DV.agg (Gx.Issue.enc v0)] (DV.one (D.b r)) := by
 refine pure_of_walk Tryz.tok Tryz.mixed Tryz.func78 (by kernel_rfl) fun W => ?_
 unfold i_IsIssue at h
 refine avb ?_
 refine plb ?_;refine call_sel (E := fun (x : Bool) => DV.one (D.b x)) h (fun x1 h1 => (i_InRange_ok N v0.mNumber 1 999 h1)) (fun x1 hx1 h => ?_)
 refine avb ?_
 refine brb h ?_ ?_<;>intro _ h
 ·refine plb ?_;refine call_sel (E := fun (x : Bool) => DV.one (D.b x)) h (fun x2 h1 => (i_IsSolved_ok N v0.mPuzzle v0.mFill h1)) (fun x2 hx2 h => ?_)
  refine avb ?_
  refine brb h ?_ ?_<;>intro _ h
  ·refine brb h ?_ ?_<;>intro _ h
   ·refine brb h ?_ ?_<;>intro _ h
    ·cases h;exact eq_by
    ·cases h;exact eq_by
   ·cases h;exact eq_by
  ·cases h;exact eq_by
 ·cases h;exact eq_by

theorem i_EmptyFill_ok (N : Nat) (v0 : Gx.Grid) {r : (List UInt8)} (h : i_EmptyFill N v0 = some r) : Pure Tryz.prog 34 [DV.agg (Gx.Grid.enc v0)] (DV.one (D.s r)) := by
 refine pure_of_walk Tryz.tok Tryz.mixed Tryz.func34 (by kernel_rfl) fun W => ?_
 unfold i_EmptyFill at h
 refine avb ?_
 refine plb ?_;refine call_sel (E := fun (x : Bool) => DV.one (D.b x)) h (fun x1 h1 => (i_IsGrid_ok N v0 h1)) (fun x1 hx1 h => ?_)
 refine avb ?_
 refine brb h ?_ ?_<;>intro _ h
 ·cases h;exact eq_by
 ·refine plb ?_;refine call_sel (E := fun (x : (List UInt8)) => DV.one (D.s x)) h (fun x2 h1 => (g_strings_ReplaceAll_ok N v0.mCells ([46] : List UInt8) ([63] : List UInt8) h1)) (fun x2 hx2 h => ?_)
  refine avb ?_
  cases h;exact eq_by

theorem i_SolutionAt_ok (N : Nat) (v0 : Gx.Issue) (v1 : Int) {r : (List UInt8)} (h : i_SolutionAt N v0 v1 = some r) : Pure Tryz.prog 33 [DV.agg (Gx.Issue.enc v0), DV.one (D.i v1)] (DV.one (D.s r)) := by
 refine pure_of_walk Tryz.tok Tryz.mixed Tryz.func33 (by kernel_rfl) fun W => ?_
 unfold i_SolutionAt at h
 refine avb ?_
 refine plb ?_;refine call_sel (E := fun (x : Bool) => DV.one (D.b x)) h (fun x1 h1 => (i_IsIssue_ok N v0 h1)) (fun x1 hx1 h => ?_)
 refine avb ?_
 refine brb h ?_ ?_<;>intro _ h
 ·cases h;exact eq_by
 ·refine brb h ?_ ?_<;>intro _ h
  ·cases h;exact eq_by
  ·refine plb ?_;refine call_sel (E := fun (x : (List UInt8)) => DV.one (D.s x)) h (fun x2 h1 => (i_EmptyFill_ok N v0.mPuzzle.mGrid h1)) (fun x2 hx2 h => ?_)
   refine avb ?_
   cases h;exact eq_by

theorem i_ShownAt_ok (N : Nat) (v0 : Gx.Issue) (v1 : Int) {r : (List (List UInt8))} (h : i_ShownAt N v0 v1 = some r) : Pure Tryz.prog 35 [DV.agg (Gx.Issue.enc v0), DV.one (D.i v1)] (DV.one (D.sl 1 (List.map Gx.encS r))) := by
 refine pure_of_walk Tryz.tok Tryz.mixed Tryz.func35 (by kernel_rfl) fun W => ?_
 unfold i_ShownAt at h
 refine avb ?_
 refine plb ?_;refine call_sel (E := fun (x : Bool) => DV.one (D.b x)) h (fun x1 h1 => (i_IsIssue_ok N v0 h1)) (fun x1 hx1 h => ?_)
 refine avb ?_
 refine brb h ?_ ?_<;>intro _ h
 ·cases h;exact eq_by
 ·refine br_sel h (fun _ h => ?_) (fun _ h => ?_)
  ·refine avb ?_
   cases h;exact eq_by
  ·refine ab0 ?_
   refine W.r_seq ?_
   refine ab0 ?_
   obtain ⟨zt4, h, gt4⟩ := bnd_some h
   refine W.r_cut (fun (t4 : Unit) => ⟨[(5, .sl 1)], [(1, some (.arr 1 (List.map Gx.encS ([])) true))], 1000⟩) (fun t => t = zt4) ?_ ?_
   ·refine avb ?_
    refine lns (v0.mPuzzle.mClues.length : Int) ?_
    refine avb ?_
    refine loop_lp (fun (p1 : Unit) => ⟨[(5, .sl 1), (19, .d (D.sl 2 (List.map Gx.Clue.enc v0.mPuzzle.mClues))), (20, .d (D.i (v0.mPuzzle.mClues.length : Int))), (21, .d (D.i 0))], [(1, some (.arr 1 (List.map Gx.encS ([])) true))], 1000⟩) h ?_ ?_
    ·exact weak_by
    intro np1 p1 yp1 h hfp1
    unfold i_ShownAt_L1 at h
    refine avb ?_
    refine brb h ?_ ?_<;>intro _ h
    ·refine idx_sel h (fun x2 hx2 h => ?_)
     cases h
    ·have h := finr hfp1 h
     refine cut_at (()) (some_in h) ?_
     exact weak_by
   rintro t4 rfl
   have h : _ = some _ := gt4
   refine avb ?_
   cases h;exact eq_by

theorem i_IsQuiet_ok (N : Nat) (v0 : Gx.House) {r : Bool} (h : i_IsQuiet N v0 = some r) : Pure Tryz.prog 8 [DV.agg (Gx.House.enc v0)] (DV.one (D.b r)) := by
 refine pure_of_walk Tryz.tok Tryz.mixed Tryz.func8 (by kernel_rfl) fun W => ?_
 unfold i_IsQuiet at h
 refine ab0 ?_
 refine W.r_seq ?_
 refine ab0 ?_
 obtain ⟨zt6, h, gt6⟩ := cutb_some h
 refine W.r_cut (fun (t6 : Unit) => ⟨[], [], 1000⟩) (fun t => .nx t = zt6) ?_ ?_
 ·refine avb ?_
  refine lns (v0.mIssues.length : Int) ?_
  refine avb ?_
  refine loop_lp (fun (p1 : Int) => ⟨[(1, .ptr 1 0 0), (6, .d (D.sl 10 (List.map Gx.Issue.enc v0.mIssues))), (7, .d (D.i (v0.mIssues.length : Int))), (8, .d (D.i p1))], [(1, some (.box [.d (D.sl 4 (List.map Gx.Listed.enc v0.mList)), .d (D.sl 2 (List.map Gx.Meaning.enc v0.mDict)), .d (D.i v0.mDesk.mGrid.mRows), .d (D.i v0.mDesk.mGrid.mCols), .d (D.s v0.mDesk.mGrid.mCells), .d (D.s v0.mDesk.mFill), .d (D.sl 2 (List.map Gx.Clue.enc v0.mDesk.mClues)), .d (D.i v0.mDesk.mVersion), .d (D.sl 10 (List.map Gx.Issue.enc v0.mIssues)), .d (D.sl 2 (List.map Gx.Used.enc v0.mUses)), .d (D.sl 5 (List.map Gx.Correction.enc v0.mCorrections)), .d (D.sl 4 (List.map Gx.Entry.enc v0.mEntries)), .d (D.i v0.mNow)]))], 1000⟩) h ?_ ?_
  ·exact weak_by
  intro np1 p1 yp1 h hfp1
  unfold i_IsQuiet_L1 at h
  refine avb ?_
  refine brb h ?_ ?_<;>intro _ h
  ·refine idx_sel h (fun x1 hx1 h => ?_)
   refine avb ?_
   refine brb h ?_ ?_<;>intro _ h
   ·refine plb ?_;refine call_sel (E := fun (x : (List UInt8)) => DV.one (D.s x)) h (fun x2 h1 => (i_SolutionAt_ok N x1 v0.mNow h1)) (fun x2 hx2 h => ?_)
    refine avb ?_
    refine plb ?_;refine call_sel (E := fun (x : (List UInt8)) => DV.one (D.s x)) h (fun x3 h1 => (i_EmptyFill_ok N x1.mPuzzle.mGrid h1)) (fun x3 hx3 h => ?_)
    refine avb ?_
    refine brb h ?_ ?_<;>intro _ h
    ·have h := finr hfp1 h
     have h := cutr gt6 h
     cases h;exact eq_by
    ·refine brb h ?_ ?_<;>intro _ h
     ·refine plb ?_;refine call_sel (E := fun (x : (List (List UInt8))) => DV.one (D.sl 1 (List.map Gx.encS x))) h (fun x4 h1 => (i_ShownAt_ok N x1 v0.mNow h1)) (fun x4 hx4 h => ?_)
      refine avb ?_
      refine lns (x4.length : Int) ?_
      refine avb ?_
      refine brb h ?_ ?_<;>intro _ h
      ·have h := finr hfp1 h
       have h := cutr gt6 h
       cases h;exact eq_by
      ·exact lbk hfp1 h
     ·exact lbk hfp1 h
   ·refine brb h ?_ ?_<;>intro _ h
    ·refine plb ?_;refine call_sel (E := fun (x : (List (List UInt8))) => DV.one (D.sl 1 (List.map Gx.encS x))) h (fun x5 h1 => (i_ShownAt_ok N x1 v0.mNow h1)) (fun x5 hx5 h => ?_)
     refine avb ?_
     refine lns (x5.length : Int) ?_
     refine avb ?_
     refine brb h ?_ ?_<;>intro _ h
     ·have h := finr hfp1 h
      have h := cutr gt6 h
      cases h;exact eq_by
     ·exact lbk hfp1 h
    ·exact lbk hfp1 h
  ·have h := finr hfp1 h
   refine cut_at (()) (some_in h) ?_
   exact weak_by
 rintro t6 rfl
 have h : _ = some _ := gt6
 refine avb ?_
 cases h;exact eq_by

theorem l_eqListed_ok (N : Nat) (v0 : Gx.Listed) (v1 : Gx.Listed) {r : Bool} (h : l_eqListed N v0 v1 = some r) : Pure Tryz.prog 82 [DV.agg (Gx.Listed.enc v0), DV.agg (Gx.Listed.enc v1)] (DV.one (D.b r)) := by
 refine pure_of_walk Tryz.tok Tryz.mixed Tryz.func82 (by kernel_rfl) fun W => ?_
 unfold l_eqListed at h
 refine avb ?_
 refine brb h ?_ ?_<;>intro _ h
 ·cases h;exact eq_by
 ·refine brb h ?_ ?_<;>intro _ h
  ·cases h;exact eq_by
  ·refine brb h ?_ ?_<;>intro _ h
   ·cases h;exact eq_by
   ·refine brb h ?_ ?_<;>intro _ h
    ·cases h;exact eq_by
    ·cases h;exact eq_by

theorem l_eqListedS_ok (N : Nat) (v0 : List (Gx.Listed)) (v1 : List (Gx.Listed)) {r : Bool} (h : l_eqListedS N v0 v1 = some r) : Pure Tryz.prog 36 [DV.one (D.sl 4 (List.map Gx.Listed.enc v0)), DV.one (D.sl 4 (List.map Gx.Listed.enc v1))] (DV.one (D.b r)) := by
 refine pure_of_walk Tryz.tok Tryz.mixed Tryz.func36 (by kernel_rfl) fun W => ?_
 unfold l_eqListedS at h
 refine avb ?_
 refine lns (v0.length : Int) ?_
 refine avb ?_
 refine lns (v1.length : Int) ?_
 refine avb ?_
 refine br_sel h (fun _ h => ?_) (fun _ h => ?_)
 ·refine avb ?_
  cases h;exact eq_by
 ·refine ab0 ?_
  obtain ⟨zt4, h, gt4⟩ := cutb_some h
  refine W.r_cut (fun (t4 : Unit) => ⟨[], [], 1000⟩) (fun t => .nx t = zt4) ?_ ?_
  ·refine avb ?_
   refine loop_lp (fun (p1 : Int) => ⟨[(0, .d (D.sl 4 (List.map Gx.Listed.enc v0))), (1, .d (D.sl 4 (List.map Gx.Listed.enc v1))), (5, .d (D.i p1))], [], 1000⟩) h ?_ ?_
   ·exact weak_by
   intro np1 p1 yp1 h hfp1
   unfold l_eqListedS_L1 at h
   refine avb ?_
   refine lns (v0.length : Int) ?_
   refine avb ?_
   refine brb h ?_ ?_<;>intro _ h
   ·refine idx_sel h (fun x1 hx1 h => ?_)
    refine avb ?_
    refine idx_sel h (fun x2 hx2 h => ?_)
    refine avb ?_
    refine plb ?_;refine call_sel (E := fun (x : Bool) => DV.one (D.b x)) h (fun x3 h1 => (l_eqListed_ok N x1 x2 h1)) (fun x3 hx3 h => ?_)
    refine avb ?_
    refine brb h ?_ ?_<;>intro _ h
    ·have h := finr hfp1 h
     have h := cutr gt4 h
     cases h;exact eq_by
    ·exact lbk hfp1 h
   ·have h := finr hfp1 h
    refine cut_at (()) (some_in h) ?_
    exact weak_by
  rintro t4 rfl
  have h : _ = some _ := gt4
  refine avb ?_
  cases h;exact eq_by

theorem l_eqMeaning_ok (N : Nat) (v0 : Gx.Meaning) (v1 : Gx.Meaning) {r : Bool} (h : l_eqMeaning N v0 v1 = some r) : Pure Tryz.prog 83 [DV.agg (Gx.Meaning.enc v0), DV.agg (Gx.Meaning.enc v1)] (DV.one (D.b r)) := by
 refine pure_of_walk Tryz.tok Tryz.mixed Tryz.func83 (by kernel_rfl) fun W => ?_
 unfold l_eqMeaning at h
 refine avb ?_
 refine brb h ?_ ?_<;>intro _ h
 ·cases h;exact eq_by
 ·refine brb h ?_ ?_<;>intro _ h
  ·cases h;exact eq_by
  ·cases h;exact eq_by

theorem l_eqMeaningS_ok (N : Nat) (v0 : List (Gx.Meaning)) (v1 : List (Gx.Meaning)) {r : Bool} (h : l_eqMeaningS N v0 v1 = some r) : Pure Tryz.prog 37 [DV.one (D.sl 2 (List.map Gx.Meaning.enc v0)), DV.one (D.sl 2 (List.map Gx.Meaning.enc v1))] (DV.one (D.b r)) := by
 refine pure_of_walk Tryz.tok Tryz.mixed Tryz.func37 (by kernel_rfl) fun W => ?_
 unfold l_eqMeaningS at h
 refine avb ?_
 refine lns (v0.length : Int) ?_
 refine avb ?_
 refine lns (v1.length : Int) ?_
 refine avb ?_
 refine br_sel h (fun _ h => ?_) (fun _ h => ?_)
 ·refine avb ?_
  cases h;exact eq_by
 ·refine ab0 ?_
  obtain ⟨zt4, h, gt4⟩ := cutb_some h
  refine W.r_cut (fun (t4 : Unit) => ⟨[], [], 1000⟩) (fun t => .nx t = zt4) ?_ ?_
  ·refine avb ?_
   refine loop_lp (fun (p1 : Int) => ⟨[(0, .d (D.sl 2 (List.map Gx.Meaning.enc v0))), (1, .d (D.sl 2 (List.map Gx.Meaning.enc v1))), (5, .d (D.i p1))], [], 1000⟩) h ?_ ?_
   ·exact weak_by
   intro np1 p1 yp1 h hfp1
   unfold l_eqMeaningS_L1 at h
   refine avb ?_
   refine lns (v0.length : Int) ?_
   refine avb ?_
   refine brb h ?_ ?_<;>intro _ h
   ·refine idx_sel h (fun x1 hx1 h => ?_)
    refine avb ?_
    refine idx_sel h (fun x2 hx2 h => ?_)
    refine avb ?_
    refine plb ?_;refine call_sel (E := fun (x : Bool) => DV.one (D.b x)) h (fun x3 h1 => (l_eqMeaning_ok N x1 x2 h1)) (fun x3 hx3 h => ?_)
    refine avb ?_
    refine brb h ?_ ?_<;>intro _ h
    ·have h := finr hfp1 h
     have h := cutr gt4 h
     cases h;exact eq_by
    ·exact lbk hfp1 h
   ·have h := finr hfp1 h
    refine cut_at (()) (some_in h) ?_
    exact weak_by
  rintro t4 rfl
  have h : _ = some _ := gt4
  refine avb ?_
  cases h;exact eq_by

theorem l_eqGrid_ok (N : Nat) (v0 : Gx.Grid) (v1 : Gx.Grid) {r : Bool} (h : l_eqGrid N v0 v1 = some r) : Pure Tryz.prog 84 [DV.agg (Gx.Grid.enc v0), DV.agg (Gx.Grid.enc v1)] (DV.one (D.b r)) := by
 refine pure_of_walk Tryz.tok Tryz.mixed Tryz.func84 (by kernel_rfl) fun W => ?_
 unfold l_eqGrid at h
 refine avb ?_
 refine brb h ?_ ?_<;>intro _ h
 ·cases h;exact eq_by
 ·refine brb h ?_ ?_<;>intro _ h
  ·cases h;exact eq_by
  ·refine brb h ?_ ?_<;>intro _ h
   ·cases h;exact eq_by
   ·cases h;exact eq_by

theorem l_eqStep_ok (N : Nat) (v0 : Gx.Step) (v1 : Gx.Step) {r : Bool} (h : l_eqStep N v0 v1 = some r) : Pure Tryz.prog 205 [DV.agg (Gx.Step.enc v0), DV.agg (Gx.Step.enc v1)] (DV.one (D.b r)) := by
 refine pure_of_walk Tryz.tok Tryz.mixed Tryz.func205 (by kernel_rfl) fun W => ?_
 unfold l_eqStep at h
 refine avb ?_
 refine brb h ?_ ?_<;>intro _ h
 ·cases h;exact eq_by
 ·refine brb h ?_ ?_<;>intro _ h
  ·cases h;exact eq_by
  ·refine brb h ?_ ?_<;>intro _ h
   ·cases h;exact eq_by
   ·refine brb h ?_ ?_<;>intro _ h
    ·cases h;exact eq_by
    ·cases h;exact eq_by

theorem l_eqStepS_ok (N : Nat) (v0 : List (Gx.Step)) (v1 : List (Gx.Step)) {r : Bool} (h : l_eqStepS N v0 v1 = some r) : Pure Tryz.prog 166 [DV.one (D.sl 4 (List.map Gx.Step.enc v0)), DV.one (D.sl 4 (List.map Gx.Step.enc v1))] (DV.one (D.b r)) := by
 refine pure_of_walk Tryz.tok Tryz.mixed Tryz.func166 (by kernel_rfl) fun W => ?_
 unfold l_eqStepS at h
 refine avb ?_
 refine lns (v0.length : Int) ?_
 refine avb ?_
 refine lns (v1.length : Int) ?_
 refine avb ?_
 refine br_sel h (fun _ h => ?_) (fun _ h => ?_)
 ·refine avb ?_
  cases h;exact eq_by
 ·refine ab0 ?_
  obtain ⟨zt4, h, gt4⟩ := cutb_some h
  refine W.r_cut (fun (t4 : Unit) => ⟨[], [], 1000⟩) (fun t => .nx t = zt4) ?_ ?_
  ·refine avb ?_
   refine loop_lp (fun (p1 : Int) => ⟨[(0, .d (D.sl 4 (List.map Gx.Step.enc v0))), (1, .d (D.sl 4 (List.map Gx.Step.enc v1))), (5, .d (D.i p1))], [], 1000⟩) h ?_ ?_
   ·exact weak_by
   intro np1 p1 yp1 h hfp1
   unfold l_eqStepS_L1 at h
   refine avb ?_
   refine lns (v0.length : Int) ?_
   refine avb ?_
   refine brb h ?_ ?_<;>intro _ h
   ·refine idx_sel h (fun x1 hx1 h => ?_)
    refine avb ?_
    refine idx_sel h (fun x2 hx2 h => ?_)
    refine avb ?_
    refine plb ?_;refine call_sel (E := fun (x : Bool) => DV.one (D.b x)) h (fun x3 h1 => (l_eqStep_ok N x1 x2 h1)) (fun x3 hx3 h => ?_)
    refine avb ?_
    refine brb h ?_ ?_<;>intro _ h
    ·have h := finr hfp1 h
     have h := cutr gt4 h
     cases h;exact eq_by
    ·exact lbk hfp1 h
   ·have h := finr hfp1 h
    refine cut_at (()) (some_in h) ?_
    exact weak_by
  rintro t4 rfl
  have h : _ = some _ := gt4
  refine avb ?_
  cases h;exact eq_by

theorem l_eqClue_ok (N : Nat) (v0 : Gx.Clue) (v1 : Gx.Clue) {r : Bool} (h : l_eqClue N v0 v1 = some r) : Pure Tryz.prog 126 [DV.agg (Gx.Clue.enc v0), DV.agg (Gx.Clue.enc v1)] (DV.one (D.b r)) := by
 refine pure_of_walk Tryz.tok Tryz.mixed Tryz.func126 (by kernel_rfl) fun W => ?_
 unfold l_eqClue at h
 refine avb ?_
 refine brb h ?_ ?_<;>intro _ h
 ·cases h;exact eq_by
 ·refine plb ?_;refine call_sel (E := fun (x : Bool) => DV.one (D.b x)) h (fun x1 h1 => (l_eqStepS_ok N v0.mPlay v1.mPlay h1)) (fun x1 hx1 h => ?_)
  refine avb ?_
  refine brb h ?_ ?_<;>intro _ h
  ·cases h;exact eq_by
  ·cases h;exact eq_by

theorem l_eqClueS_ok (N : Nat) (v0 : List (Gx.Clue)) (v1 : List (Gx.Clue)) {r : Bool} (h : l_eqClueS N v0 v1 = some r) : Pure Tryz.prog 85 [DV.one (D.sl 2 (List.map Gx.Clue.enc v0)), DV.one (D.sl 2 (List.map Gx.Clue.enc v1))] (DV.one (D.b r)) := by
 refine pure_of_walk Tryz.tok Tryz.mixed Tryz.func85 (by kernel_rfl) fun W => ?_
 unfold l_eqClueS at h
 refine avb ?_
 refine lns (v0.length : Int) ?_
 refine avb ?_
 refine lns (v1.length : Int) ?_
 refine avb ?_
 refine br_sel h (fun _ h => ?_) (fun _ h => ?_)
 ·refine avb ?_
  cases h;exact eq_by
 ·refine ab0 ?_
  obtain ⟨zt4, h, gt4⟩ := cutb_some h
  refine W.r_cut (fun (t4 : Unit) => ⟨[], [], 1000⟩) (fun t => .nx t = zt4) ?_ ?_
  ·refine avb ?_
   refine loop_lp (fun (p1 : Int) => ⟨[(0, .d (D.sl 2 (List.map Gx.Clue.enc v0))), (1, .d (D.sl 2 (List.map Gx.Clue.enc v1))), (5, .d (D.i p1))], [], 1000⟩) h ?_ ?_
   ·exact weak_by
   intro np1 p1 yp1 h hfp1
   unfold l_eqClueS_L1 at h
   refine avb ?_
   refine lns (v0.length : Int) ?_
   refine avb ?_
   refine brb h ?_ ?_<;>intro _ h
   ·refine idx_sel h (fun x1 hx1 h => ?_)
    refine avb ?_
    refine idx_sel h (fun x2 hx2 h => ?_)
    refine avb ?_
    refine plb ?_;refine call_sel (E := fun (x : Bool) => DV.one (D.b x)) h (fun x3 h1 => (l_eqClue_ok N x1 x2 h1)) (fun x3 hx3 h => ?_)
    refine avb ?_
    refine brb h ?_ ?_<;>intro _ h
    ·have h := finr hfp1 h
     have h := cutr gt4 h
     cases h;exact eq_by
    ·exact lbk hfp1 h
   ·have h := finr hfp1 h
    refine cut_at (()) (some_in h) ?_
    exact weak_by
  rintro t4 rfl
  have h : _ = some _ := gt4
  refine avb ?_
  cases h;exact eq_by

theorem l_eqDraft_ok (N : Nat) (v0 : Gx.Draft) (v1 : Gx.Draft) {r : Bool} (h : l_eqDraft N v0 v1 = some r) : Pure Tryz.prog 38 [DV.agg (Gx.Draft.enc v0), DV.agg (Gx.Draft.enc v1)] (DV.one (D.b r)) := by
 refine pure_of_walk Tryz.tok Tryz.mixed Tryz.func38 (by kernel_rfl) fun W => ?_
 unfold l_eqDraft at h
 refine avb ?_
 refine plb ?_;refine call_sel (E := fun (x : Bool) => DV.one (D.b x)) h (fun x1 h1 => (l_eqGrid_ok N v0.mGrid v1.mGrid h1)) (fun x1 hx1 h => ?_)
 refine avb ?_
 refine brb h ?_ ?_<;>intro _ h
 ·cases h;exact eq_by
 ·refine brb h ?_ ?_<;>intro _ h
  ·cases h;exact eq_by
  ·refine plb ?_;refine call_sel (E := fun (x : Bool) => DV.one (D.b x)) h (fun x2 h1 => (l_eqClueS_ok N v0.mClues v1.mClues h1)) (fun x2 hx2 h => ?_)
   refine avb ?_
   refine brb h ?_ ?_<;>intro _ h
   ·cases h;exact eq_by
   ·refine brb h ?_ ?_<;>intro _ h
    ·cases h;exact eq_by
    ·cases h;exact eq_by

theorem l_eqIntS_ok (N : Nat) (v0 : List (Int)) (v1 : List (Int)) {r : Bool} (h : l_eqIntS N v0 v1 = some r) : Pure Tryz.prog 167 [DV.one (D.sl 1 (List.map Gx.encI v0)), DV.one (D.sl 1 (List.map Gx.encI v1))] (DV.one (D.b r)) := by
 refine pure_of_walk Tryz.tok Tryz.mixed Tryz.func167 (by kernel_rfl) fun W => ?_
 unfold l_eqIntS at h
 refine avb ?_
 refine lns (v0.length : Int) ?_
 refine avb ?_
 refine lns (v1.length : Int) ?_
 refine avb ?_
 refine br_sel h (fun _ h => ?_) (fun _ h => ?_)
 ·refine avb ?_
  cases h;exact eq_by
 ·refine ab0 ?_
  obtain ⟨zt3, h, gt3⟩ := cutb_some h
  refine W.r_cut (fun (t3 : Unit) => ⟨[], [], 1000⟩) (fun t => .nx t = zt3) ?_ ?_
  ·refine avb ?_
   refine loop_lp (fun (p1 : Int) => ⟨[(0, .d (D.sl 1 (List.map Gx.encI v0))), (1, .d (D.sl 1 (List.map Gx.encI v1))), (5, .d (D.i p1))], [], 1000⟩) h ?_ ?_
   ·exact weak_by
   intro np1 p1 yp1 h hfp1
   unfold l_eqIntS_L1 at h
   refine avb ?_
   refine lns (v0.length : Int) ?_
   refine avb ?_
   refine brb h ?_ ?_<;>intro _ h
   ·refine idx_sel h (fun x1 hx1 h => ?_)
    refine avb ?_
    refine idx_sel h (fun x2 hx2 h => ?_)
    refine avb ?_
    refine brb h ?_ ?_<;>intro _ h
    ·have h := finr hfp1 h
     have h := cutr gt3 h
     cases h;exact eq_by
    ·exact lbk hfp1 h
   ·have h := finr hfp1 h
    refine cut_at (()) (some_in h) ?_
    exact weak_by
  rintro t3 rfl
  have h : _ = some _ := gt3
  refine avb ?_
  cases h;exact eq_by

theorem l_eqPuzzle_ok (N : Nat) (v0 : Gx.Puzzle) (v1 : Gx.Puzzle) {r : Bool} (h : l_eqPuzzle N v0 v1 = some r) : Pure Tryz.prog 127 [DV.agg (Gx.Puzzle.enc v0), DV.agg (Gx.Puzzle.enc v1)] (DV.one (D.b r)) := by
 refine pure_of_walk Tryz.tok Tryz.mixed Tryz.func127 (by kernel_rfl) fun W => ?_
 unfold l_eqPuzzle at h
 refine avb ?_
 refine plb ?_;refine call_sel (E := fun (x : Bool) => DV.one (D.b x)) h (fun x1 h1 => (l_eqGrid_ok N v0.mGrid v1.mGrid h1)) (fun x1 hx1 h => ?_)
 refine avb ?_
 refine brb h ?_ ?_<;>intro _ h
 ·cases h;exact eq_by
 ·refine plb ?_;refine call_sel (E := fun (x : Bool) => DV.one (D.b x)) h (fun x2 h1 => (l_eqClueS_ok N v0.mClues v1.mClues h1)) (fun x2 hx2 h => ?_)
  refine avb ?_
  refine brb h ?_ ?_<;>intro _ h
  ·cases h;exact eq_by
  ·refine plb ?_;refine call_sel (E := fun (x : Bool) => DV.one (D.b x)) h (fun x3 h1 => (l_eqIntS_ok N v0.mSeals v1.mSeals h1)) (fun x3 hx3 h => ?_)
   refine avb ?_
   refine brb h ?_ ?_<;>intro _ h
   ·cases h;exact eq_by
   ·refine brb h ?_ ?_<;>intro _ h
    ·cases h;exact eq_by
    ·cases h;exact eq_by

theorem l_eqIssue_ok (N : Nat) (v0 : Gx.Issue) (v1 : Gx.Issue) {r : Bool} (h : l_eqIssue N v0 v1 = some r) : Pure Tryz.prog 86 [DV.agg (Gx.Issue.enc v0), DV.agg (Gx.Issue.enc v1)] (DV.one (D.b r)) := by
 refine pure_of_walk Tryz.tok Tryz.mixed Tryz.func86 (by kernel_rfl) fun W => ?_
 unfold l_eqIssue at h
 refine avb ?_
 refine brb h ?_ ?_<;>intro _ h
 ·cases h;exact eq_by
 ·refine plb ?_;refine call_sel (E := fun (x : Bool) => DV.one (D.b x)) h (fun x1 h1 => (l_eqPuzzle_ok N v0.mPuzzle v1.mPuzzle h1)) (fun x1 hx1 h => ?_)
  refine avb ?_
  refine brb h ?_ ?_<;>intro _ h
  ·cases h;exact eq_by
  ·refine brb h ?_ ?_<;>intro _ h
   ·cases h;exact eq_by
   ·refine brb h ?_ ?_<;>intro _ h
    ·cases h;exact eq_by
    ·refine brb h ?_ ?_<;>intro _ h
     ·cases h;exact eq_by
     ·cases h;exact eq_by

theorem l_eqIssueS_ok (N : Nat) (v0 : List (Gx.Issue)) (v1 : List (Gx.Issue)) {r : Bool} (h : l_eqIssueS N v0 v1 = some r) : Pure Tryz.prog 39 [DV.one (D.sl 10 (List.map Gx.Issue.enc v0)), DV.one (D.sl 10 (List.map Gx.Issue.enc v1))] (DV.one (D.b r)) := by
 refine pure_of_walk Tryz.tok Tryz.mixed Tryz.func39 (by kernel_rfl) fun W => ?_
 unfold l_eqIssueS at h
 refine avb ?_
 refine lns (v0.length : Int) ?_
 refine avb ?_
 refine lns (v1.length : Int) ?_
 refine avb ?_
 refine br_sel h (fun _ h => ?_) (fun _ h => ?_)
 ·refine avb ?_
  cases h;exact eq_by
 ·refine ab0 ?_
  obtain ⟨zt4, h, gt4⟩ := cutb_some h
  refine W.r_cut (fun (t4 : Unit) => ⟨[], [], 1000⟩) (fun t => .nx t = zt4) ?_ ?_
  ·refine avb ?_
   refine loop_lp (fun (p1 : Int) => ⟨[(0, .d (D.sl 10 (List.map Gx.Issue.enc v0))), (1, .d (D.sl 10 (List.map Gx.Issue.enc v1))), (5, .d (D.i p1))], [], 1000⟩) h ?_ ?_
   ·exact weak_by
   intro np1 p1 yp1 h hfp1
   unfold l_eqIssueS_L1 at h
   refine avb ?_
   refine lns (v0.length : Int) ?_
   refine avb ?_
   refine brb h ?_ ?_<;>intro _ h
   ·refine idx_sel h (fun x1 hx1 h => ?_)
    refine avb ?_
    refine idx_sel h (fun x2 hx2 h => ?_)
    refine avb ?_
    refine plb ?_;refine call_sel (E := fun (x : Bool) => DV.one (D.b x)) h (fun x3 h1 => (l_eqIssue_ok N x1 x2 h1)) (fun x3 hx3 h => ?_)
    refine avb ?_
    refine brb h ?_ ?_<;>intro _ h
    ·have h := finr hfp1 h
     have h := cutr gt4 h
     cases h;exact eq_by
    ·exact lbk hfp1 h
   ·have h := finr hfp1 h
    refine cut_at (()) (some_in h) ?_
    exact weak_by
  rintro t4 rfl
  have h : _ = some _ := gt4
  refine avb ?_
  cases h;exact eq_by

theorem l_eqUsed_ok (N : Nat) (v0 : Gx.Used) (v1 : Gx.Used) {r : Bool} (h : l_eqUsed N v0 v1 = some r) : Pure Tryz.prog 87 [DV.agg (Gx.Used.enc v0), DV.agg (Gx.Used.enc v1)] (DV.one (D.b r)) := by
 refine pure_of_walk Tryz.tok Tryz.mixed Tryz.func87 (by kernel_rfl) fun W => ?_
 unfold l_eqUsed at h
 refine avb ?_
 refine brb h ?_ ?_<;>intro _ h
 ·cases h;exact eq_by
 ·refine brb h ?_ ?_<;>intro _ h
  ·cases h;exact eq_by
  ·cases h;exact eq_by

theorem l_eqUsedS_ok (N : Nat) (v0 : List (Gx.Used)) (v1 : List (Gx.Used)) {r : Bool} (h : l_eqUsedS N v0 v1 = some r) : Pure Tryz.prog 40 [DV.one (D.sl 2 (List.map Gx.Used.enc v0)), DV.one (D.sl 2 (List.map Gx.Used.enc v1))] (DV.one (D.b r)) := by
 refine pure_of_walk Tryz.tok Tryz.mixed Tryz.func40 (by kernel_rfl) fun W => ?_
 unfold l_eqUsedS at h
 refine avb ?_
 refine lns (v0.length : Int) ?_
 refine avb ?_
 refine lns (v1.length : Int) ?_
 refine avb ?_
 refine br_sel h (fun _ h => ?_) (fun _ h => ?_)
 ·refine avb ?_
  cases h;exact eq_by
 ·refine ab0 ?_
  obtain ⟨zt4, h, gt4⟩ := cutb_some h
  refine W.r_cut (fun (t4 : Unit) => ⟨[], [], 1000⟩) (fun t => .nx t = zt4) ?_ ?_
  ·refine avb ?_
   refine loop_lp (fun (p1 : Int) => ⟨[(0, .d (D.sl 2 (List.map Gx.Used.enc v0))), (1, .d (D.sl 2 (List.map Gx.Used.enc v1))), (5, .d (D.i p1))], [], 1000⟩) h ?_ ?_
   ·exact weak_by
   intro np1 p1 yp1 h hfp1
   unfold l_eqUsedS_L1 at h
   refine avb ?_
   refine lns (v0.length : Int) ?_
   refine avb ?_
   refine brb h ?_ ?_<;>intro _ h
   ·refine idx_sel h (fun x1 hx1 h => ?_)
    refine avb ?_
    refine idx_sel h (fun x2 hx2 h => ?_)
    refine avb ?_
    refine plb ?_;refine call_sel (E := fun (x : Bool) => DV.one (D.b x)) h (fun x3 h1 => (l_eqUsed_ok N x1 x2 h1)) (fun x3 hx3 h => ?_)
    refine avb ?_
    refine brb h ?_ ?_<;>intro _ h
    ·have h := finr hfp1 h
     have h := cutr gt4 h
     cases h;exact eq_by
    ·exact lbk hfp1 h
   ·have h := finr hfp1 h
    refine cut_at (()) (some_in h) ?_
    exact weak_by
  rintro t4 rfl
  have h : _ = some _ := gt4
  refine avb ?_
  cases h;exact eq_by

theorem l_eqCorrection_ok (N : Nat) (v0 : Gx.Correction) (v1 : Gx.Correction) {r : Bool} (h : l_eqCorrection N v0 v1 = some r) : Pure Tryz.prog 88 [DV.agg (Gx.Correction.enc v0), DV.agg (Gx.Correction.enc v1)] (DV.one (D.b r)) := by
 refine pure_of_walk Tryz.tok Tryz.mixed Tryz.func88 (by kernel_rfl) fun W => ?_
 unfold l_eqCorrection at h
 refine avb ?_
 refine brb h ?_ ?_<;>intro _ h
 ·cases h;exact eq_by
 ·refine brb h ?_ ?_<;>intro _ h
  ·cases h;exact eq_by
  ·refine plb ?_;refine call_sel (E := fun (x : Bool) => DV.one (D.b x)) h (fun x1 h1 => (l_eqClue_ok N v0.mClue v1.mClue h1)) (fun x1 hx1 h => ?_)
   refine avb ?_
   refine brb h ?_ ?_<;>intro _ h
   ·cases h;exact eq_by
   ·refine brb h ?_ ?_<;>intro _ h
    ·cases h;exact eq_by
    ·cases h;exact eq_by

theorem l_eqCorrectionS_ok (N : Nat) (v0 : List (Gx.Correction)) (v1 : List (Gx.Correction)) {r : Bool} (h : l_eqCorrectionS N v0 v1 = some r) : Pure Tryz.prog 41 [DV.one (D.sl 5 (List.map Gx.Correction.enc v0)), DV.one (D.sl 5 (List.map Gx.Correction.enc v1))] (DV.one (D.b r)) := by
 refine pure_of_walk Tryz.tok Tryz.mixed Tryz.func41 (by kernel_rfl) fun W => ?_
 unfold l_eqCorrectionS at h
 refine avb ?_
 refine lns (v0.length : Int) ?_
 refine avb ?_
 refine lns (v1.length : Int) ?_
 refine avb ?_
 refine br_sel h (fun _ h => ?_) (fun _ h => ?_)
 ·refine avb ?_
  cases h;exact eq_by
 ·refine ab0 ?_
  obtain ⟨zt4, h, gt4⟩ := cutb_some h
  refine W.r_cut (fun (t4 : Unit) => ⟨[], [], 1000⟩) (fun t => .nx t = zt4) ?_ ?_
  ·refine avb ?_
   refine loop_lp (fun (p1 : Int) => ⟨[(0, .d (D.sl 5 (List.map Gx.Correction.enc v0))), (1, .d (D.sl 5 (List.map Gx.Correction.enc v1))), (5, .d (D.i p1))], [], 1000⟩) h ?_ ?_
   ·exact weak_by
   intro np1 p1 yp1 h hfp1
   unfold l_eqCorrectionS_L1 at h
   refine avb ?_
   refine lns (v0.length : Int) ?_
   refine avb ?_
   refine brb h ?_ ?_<;>intro _ h
   ·refine idx_sel h (fun x1 hx1 h => ?_)
    refine avb ?_
    refine idx_sel h (fun x2 hx2 h => ?_)
    refine avb ?_
    refine plb ?_;refine call_sel (E := fun (x : Bool) => DV.one (D.b x)) h (fun x3 h1 => (l_eqCorrection_ok N x1 x2 h1)) (fun x3 hx3 h => ?_)
    refine avb ?_
    refine brb h ?_ ?_<;>intro _ h
    ·have h := finr hfp1 h
     have h := cutr gt4 h
     cases h;exact eq_by
    ·exact lbk hfp1 h
   ·have h := finr hfp1 h
    refine cut_at (()) (some_in h) ?_
    exact weak_by
  rintro t4 rfl
  have h : _ = some _ := gt4
  refine avb ?_
  cases h;exact eq_by

theorem l_eqEntry_ok (N : Nat) (v0 : Gx.Entry) (v1 : Gx.Entry) {r : Bool} (h : l_eqEntry N v0 v1 = some r) : Pure Tryz.prog 89 [DV.agg (Gx.Entry.enc v0), DV.agg (Gx.Entry.enc v1)] (DV.one (D.b r)) := by
 refine pure_of_walk Tryz.tok Tryz.mixed Tryz.func89 (by kernel_rfl) fun W => ?_
 unfold l_eqEntry at h
 refine avb ?_
 refine brb h ?_ ?_<;>intro _ h
 ·cases h;exact eq_by
 ·refine brb h ?_ ?_<;>intro _ h
  ·cases h;exact eq_by
  ·refine brb h ?_ ?_<;>intro _ h
   ·cases h;exact eq_by
   ·refine brb h ?_ ?_<;>intro _ h
    ·cases h;exact eq_by
    ·cases h;exact eq_by

theorem l_eqEntryS_ok (N : Nat) (v0 : List (Gx.Entry)) (v1 : List (Gx.Entry)) {r : Bool} (h : l_eqEntryS N v0 v1 = some r) : Pure Tryz.prog 42 [DV.one (D.sl 4 (List.map Gx.Entry.enc v0)), DV.one (D.sl 4 (List.map Gx.Entry.enc v1))] (DV.one (D.b r)) := by
 refine pure_of_walk Tryz.tok Tryz.mixed Tryz.func42 (by kernel_rfl) fun W => ?_
 unfold l_eqEntryS at h
 refine avb ?_
 refine lns (v0.length : Int) ?_
 refine avb ?_
 refine lns (v1.length : Int) ?_
 refine avb ?_
 refine br_sel h (fun _ h => ?_) (fun _ h => ?_)
 ·refine avb ?_
  cases h;exact eq_by
 ·refine ab0 ?_
  obtain ⟨zt4, h, gt4⟩ := cutb_some h
  refine W.r_cut (fun (t4 : Unit) => ⟨[], [], 1000⟩) (fun t => .nx t = zt4) ?_ ?_
  ·refine avb ?_
   refine loop_lp (fun (p1 : Int) => ⟨[(0, .d (D.sl 4 (List.map Gx.Entry.enc v0))), (1, .d (D.sl 4 (List.map Gx.Entry.enc v1))), (5, .d (D.i p1))], [], 1000⟩) h ?_ ?_
   ·exact weak_by
   intro np1 p1 yp1 h hfp1
   unfold l_eqEntryS_L1 at h
   refine avb ?_
   refine lns (v0.length : Int) ?_
   refine avb ?_
   refine brb h ?_ ?_<;>intro _ h
   ·refine idx_sel h (fun x1 hx1 h => ?_)
    refine avb ?_
    refine idx_sel h (fun x2 hx2 h => ?_)
    refine avb ?_
    refine plb ?_;refine call_sel (E := fun (x : Bool) => DV.one (D.b x)) h (fun x3 h1 => (l_eqEntry_ok N x1 x2 h1)) (fun x3 hx3 h => ?_)
    refine avb ?_
    refine brb h ?_ ?_<;>intro _ h
    ·have h := finr hfp1 h
     have h := cutr gt4 h
     cases h;exact eq_by
    ·exact lbk hfp1 h
   ·have h := finr hfp1 h
    refine cut_at (()) (some_in h) ?_
    exact weak_by
  rintro t4 rfl
  have h : _ = some _ := gt4
  refine avb ?_
  cases h;exact eq_by

theorem l_eqHouse_ok (N : Nat) (v0 : Gx.House) (v1 : Gx.House) {r : Bool} (h : l_eqHouse N v0 v1 = some r) : Pure Tryz.prog 9 [DV.agg (Gx.House.enc v0), DV.agg (Gx.House.enc v1)] (DV.one (D.b r)) := by
 refine pure_of_walk Tryz.tok Tryz.mixed Tryz.func9 (by kernel_rfl) fun W => ?_
 unfold l_eqHouse at h
 refine avb ?_
 refine plb ?_;refine call_sel (E := fun (x : Bool) => DV.one (D.b x)) h (fun x1 h1 => (l_eqListedS_ok N v0.mList v1.mList h1)) (fun x1 hx1 h => ?_)
 refine avb ?_
 refine brb h ?_ ?_<;>intro _ h
 ·cases h;exact eq_by
 ·refine plb ?_;refine call_sel (E := fun (x : Bool) => DV.one (D.b x)) h (fun x2 h1 => (l_eqMeaningS_ok N v0.mDict v1.mDict h1)) (fun x2 hx2 h => ?_)
  refine avb ?_
  refine brb h ?_ ?_<;>intro _ h
  ·cases h;exact eq_by
  ·refine plb ?_;refine call_sel (E := fun (x : Bool) => DV.one (D.b x)) h (fun x3 h1 => (l_eqDraft_ok N v0.mDesk v1.mDesk h1)) (fun x3 hx3 h => ?_)
   refine avb ?_
   refine brb h ?_ ?_<;>intro _ h
   ·cases h;exact eq_by
   ·refine plb ?_;refine call_sel (E := fun (x : Bool) => DV.one (D.b x)) h (fun x4 h1 => (l_eqIssueS_ok N v0.mIssues v1.mIssues h1)) (fun x4 hx4 h => ?_)
    refine avb ?_
    refine brb h ?_ ?_<;>intro _ h
    ·cases h;exact eq_by
    ·refine plb ?_;refine call_sel (E := fun (x : Bool) => DV.one (D.b x)) h (fun x5 h1 => (l_eqUsedS_ok N v0.mUses v1.mUses h1)) (fun x5 hx5 h => ?_)
     refine avb ?_
     refine brb h ?_ ?_<;>intro _ h
     ·cases h;exact eq_by
     ·refine plb ?_;refine call_sel (E := fun (x : Bool) => DV.one (D.b x)) h (fun x6 h1 => (l_eqCorrectionS_ok N v0.mCorrections v1.mCorrections h1)) (fun x6 hx6 h => ?_)
      refine avb ?_
      refine brb h ?_ ?_<;>intro _ h
      ·cases h;exact eq_by
      ·refine plb ?_;refine call_sel (E := fun (x : Bool) => DV.one (D.b x)) h (fun x7 h1 => (l_eqEntryS_ok N v0.mEntries v1.mEntries h1)) (fun x7 hx7 h => ?_)
       refine avb ?_
       refine brb h ?_ ?_<;>intro _ h
       ·cases h;exact eq_by
       ·refine brb h ?_ ?_<;>intro _ h
        ·cases h;exact eq_by
        ·cases h;exact eq_by

theorem l_FnExactIsQuiet_ok (N : Nat) (v0 : Gx.House) {r : Bool} (h : l_FnExactIsQuiet N v0 = some r) : Pure Tryz.prog 3 [DV.agg (Gx.House.enc v0)] (DV.one (D.b r)) := by
 refine pure_of_walk Tryz.tok Tryz.mixed Tryz.func3 (by kernel_rfl) fun W => ?_
 unfold l_FnExactIsQuiet at h
 refine avb ?_
 refine plb ?_;refine call_sel (E := fun (x : Int) => DV.one (D.i x)) h (fun x1 h1 => (l_szHouse_ok N v0 1048576 h1)) (fun x1 hx1 h => ?_)
 refine avb ?_
 refine brb h ?_ ?_<;>intro _ h
 ·cases h;exact eq_by
 ·refine plb ?_;refine call_sel (E := fun (x : Gx.House) => DV.agg (Gx.House.enc x)) h (fun x2 h1 => (l_toHouse_ok N v0 h1)) (fun x2 hx2 h => ?_)
  refine avb ?_
  refine plb ?_;refine call_sel (E := fun (x : Bool) => DV.one (D.b x)) h (fun x3 h1 => (s_IsQuiet_ok N x2 h1)) (fun x3 hx3 h => ?_)
  refine avb ?_
  refine plb ?_;refine call_sel (E := fun (x : Gx.House) => DV.agg (Gx.House.enc x)) h (fun x4 h1 => (l_toHouse_ok N v0 h1)) (fun x4 hx4 h => ?_)
  refine avb ?_
  refine plb ?_;refine call_sel (E := fun (x : Bool) => DV.one (D.b x)) h (fun x5 h1 => (i_IsQuiet_ok N x4 h1)) (fun x5 hx5 h => ?_)
  refine avb ?_
  refine brb h ?_ ?_<;>intro _ h
  ·cases h;exact eq_by
  ·refine plb ?_;refine call_sel (E := fun (x : Gx.House) => DV.agg (Gx.House.enc x)) h (fun x6 h1 => (l_toHouse_ok N v0 h1)) (fun x6 hx6 h => ?_)
   refine avb ?_
   refine plb ?_;refine call_sel (E := fun (x : Bool) => DV.one (D.b x)) h (fun x7 h1 => (l_eqHouse_ok N x4 x6 h1)) (fun x7 hx7 h => ?_)
   refine avb ?_
   refine brb h ?_ ?_<;>intro _ h
   ·cases h;exact eq_by
   ·cases h;exact eq_by
end Lw
end Go.Proofs
