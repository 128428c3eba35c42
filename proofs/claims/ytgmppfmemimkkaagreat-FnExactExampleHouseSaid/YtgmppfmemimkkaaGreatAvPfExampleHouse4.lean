/- PRINTED BY gen.py (mine): their contracts. -/
import Derived.Test.YtgmppfmemimkkaaGreatAvPfExampleHouse3
namespace Go.Proofs
open Go Go.Av
set_option maxRecDepth 100000
set_option maxHeartbeats 4000000
set_option linter.unusedVariables false
set_option linter.unusedSimpArgs false
namespace Lw
theorem i_IsClue_ok (N : Nat) (v0 : Gx.Clue) {r : Bool} (h : i_IsClue N v0 = some r) : Pure Tryz.prog 148 [DV.agg (Gx.Clue.enc v0)] (DV.one (D.b r)) := by
 refine pure_of_walk Tryz.tok Tryz.mixed Tryz.func148 (by kernel_rfl) fun W => ?_
 unfold i_IsClue at h
 refine avb ?_
 refine plb ?_;refine call_sel (E := fun (x : Bool) => DV.one (D.b x)) h (fun x1 h1 => (i_InRange_ok N v0.mSense 1 99 h1)) (fun x1 hx1 h => ?_)
 refine avb ?_
 refine brb h ?_ ?_<;>intro _ h
 ·refine plb ?_;refine call_sel (E := fun (x : Bool) => DV.one (D.b x)) h (fun x2 h1 => (i_IsPlay_ok N v0.mPlay h1)) (fun x2 hx2 h => ?_)
  refine avb ?_
  cases h;exact eq_by
 ·cases h;exact eq_by

theorem i_IsDraft_1_ok (N : Nat) (v0 : Gx.Clue) {r : Bool} (h : i_IsDraft_1 N v0 = some r) : Pure Tryz.prog 147 [DV.agg (Gx.Clue.enc v0)] (DV.one (D.b r)) := by
 refine pure_of_walk Tryz.tok Tryz.mixed Tryz.func147 (by kernel_rfl) fun W => ?_
 unfold i_IsDraft_1 at h
 refine avb ?_
 refine plb ?_;refine call_sel (E := fun (x : Bool) => DV.one (D.b x)) h (fun x1 h1 => (i_IsClue_ok N v0 h1)) (fun x1 hx1 h => ?_)
 refine avb ?_
 refine brb h ?_ ?_<;>intro _ h
 ·refine plb ?_;refine call_sel (E := fun (x : Bool) => DV.one (D.b x)) h (fun x2 h1 => (i_sameClue_ok N v0 (⟨0, []⟩ : Gx.Clue) h1)) (fun x2 hx2 h => ?_)
  refine avb ?_
  cases h;exact eq_by
 ·cases h;exact eq_by

theorem g_slices_IndexFunc_Simpl_Clue_impl_Clue_ok0 (N : Nat) (v0 : List (Gx.Clue)) (v1 : (Gx.Clue) → Option Bool) (fv1 : FuncId) (hv1 : ∀ a0 r, v1 a0 = some r → Pure Tryz.prog fv1 [DV.agg (Gx.Clue.enc a0)] (DV.one (D.b r))) {r : Int} (h : g_slices_IndexFunc_Simpl_Clue_impl_Clue N v0 v1 = some r) : Pure Tryz.prog 183 [DV.one (D.sl 2 (List.map Gx.Clue.enc v0)), DV.fn fv1 []] (DV.one (D.i r)) := by
 refine pure_of_walk Tryz.tok Tryz.mixed Tryz.func183 (by kernel_rfl) fun W => ?_
 unfold g_slices_IndexFunc_Simpl_Clue_impl_Clue at h
 refine ab0 ?_
 refine W.r_seq ?_
 refine ab0 ?_
 obtain ⟨zt3, h, gt3⟩ := cutb_some h
 refine W.r_cut (fun (t3 : Unit) => ⟨[], [], 1000⟩) (fun t => .nx t = zt3) ?_ ?_
 ·refine avb ?_
  refine lns (v0.length : Int) ?_
  refine avb ?_
  refine loop_lp (fun (p1 : Int) => ⟨[(0, .d (D.sl 2 (List.map Gx.Clue.enc v0))), (1, .fn fv1 []), (7, .d (D.i (v0.length : Int))), (8, .d (D.i p1))], [], 1000⟩) h ?_ ?_
  ·exact weak_by
  intro np1 p1 yp1 h hfp1
  unfold g_slices_IndexFunc_Simpl_Clue_impl_Clue_L1 at h
  refine avb ?_
  refine brb h ?_ ?_<;>intro _ h
  ·refine idx_sel h (fun x1 hx1 h => ?_)
   refine avb ?_
   refine plb ?_;refine call_sel (E := fun (x : Bool) => DV.one (D.b x)) h (fun x2 h1 => (hv1 _ _ h1)) (fun x2 hx2 h => ?_)
   refine avb ?_
   refine brb h ?_ ?_<;>intro _ h
   ·have h := finr hfp1 h
    have h := cutr gt3 h
    cases h;exact eq_by
   ·exact lbk hfp1 h
  ·have h := finr hfp1 h
   refine cut_at (()) (some_in h) ?_
   exact weak_by
 rintro t3 rfl
 have h : _ = some _ := gt3
 refine avb ?_
 cases h;exact eq_by

theorem g_slices_ContainsFunc_Simpl_Clue_impl_Clue_ok0 (N : Nat) (v0 : List (Gx.Clue)) (v1 : (Gx.Clue) → Option Bool) (fv1 : FuncId) (hv1 : ∀ a0 r, v1 a0 = some r → Pure Tryz.prog fv1 [DV.agg (Gx.Clue.enc a0)] (DV.one (D.b r))) {r : Bool} (h : g_slices_ContainsFunc_Simpl_Clue_impl_Clue N v0 v1 = some r) : Pure Tryz.prog 146 [DV.one (D.sl 2 (List.map Gx.Clue.enc v0)), DV.fn fv1 []] (DV.one (D.b r)) := by
 refine pure_of_walk Tryz.tok Tryz.mixed Tryz.func146 (by kernel_rfl) fun W => ?_
 unfold g_slices_ContainsFunc_Simpl_Clue_impl_Clue at h
 refine avb ?_
 refine plb ?_;refine call_sel (E := fun (x : Int) => DV.one (D.i x)) h (fun x1 h1 => (g_slices_IndexFunc_Simpl_Clue_impl_Clue_ok0 N v0 v1 fv1 hv1 h1)) (fun x1 hx1 h => ?_)
 refine avb ?_
 cases h;exact eq_by

theorem i_IsDraft_ok (N : Nat) (v0 : Gx.Draft) {r : Bool} (h : i_IsDraft N v0 = some r) : Pure Tryz.prog 106 [DV.agg (Gx.Draft.enc v0)] (DV.one (D.b r)) := by
 refine pure_of_walk Tryz.tok Tryz.mixed Tryz.func106 (by kernel_rfl) fun W => ?_
 unfold i_IsDraft at h
 refine avb ?_
 refine plb ?_;refine call_sel (E := fun (x : Int) => DV.one (D.i x)) h (fun x1 h1 => (i_FormOf_ok N v0.mGrid h1)) (fun x1 hx1 h => ?_)
 refine avb ?_
 refine brb h ?_ ?_<;>intro _ h
 ·refine plb ?_;refine call_sel (E := fun (x : Bool) => DV.one (D.b x)) h (fun x2 h1 => (i_IsFill_ok N v0.mGrid v0.mFill h1)) (fun x2 hx2 h => ?_)
  refine avb ?_
  refine brb h ?_ ?_<;>intro _ h
  ·refine lns (v0.mClues.length : Int) ?_
   refine avb ?_
   refine plb ?_;refine call_sel (E := fun (x : (List (Gx.Slot))) => DV.one (D.sl 4 (List.map Gx.Slot.enc x))) h (fun x3 h1 => (i_SlotsOf_ok N v0.mGrid h1)) (fun x3 hx3 h => ?_)
   refine avb ?_
   refine lns (x3.length : Int) ?_
   refine avb ?_
   refine brb h ?_ ?_<;>intro _ h
   ·refine plb ?_;refine call_sel (E := fun (x : Bool) => DV.one (D.b x)) h (fun x4 h1 => (i_InRange_ok N v0.mVersion 1 9999 h1)) (fun x4 hx4 h => ?_)
    refine avb ?_
    refine brb h ?_ ?_<;>intro _ h
    ·refine plb ?_;refine call_sel (E := fun (x : Bool) => DV.one (D.b x)) h (fun x5 h1 => (g_slices_ContainsFunc_Simpl_Clue_impl_Clue_ok0 N v0.mClues (fun a0 => i_IsDraft_1 N a0) 147 (fun a0 _ hh => i_IsDraft_1_ok N a0 hh) h1)) (fun x5 hx5 h => ?_)
     refine avb ?_
     cases h;exact eq_by
    ·cases h;exact eq_by
   ·cases h;exact eq_by
  ·cases h;exact eq_by
 ·cases h;exact eq_by

theorem i_IsPuzzle_1_ok (N : Nat) (v0 : Gx.Clue) {r : Bool} (h : i_IsPuzzle_1 N v0 = some r) : Pure Tryz.prog 211 [DV.agg (Gx.Clue.enc v0)] (DV.one (D.b r)) := by
 refine pure_of_walk Tryz.tok Tryz.mixed Tryz.func211 (by kernel_rfl) fun W => ?_
 unfold i_IsPuzzle_1 at h
 refine avb ?_
 refine plb ?_;refine call_sel (E := fun (x : Bool) => DV.one (D.b x)) h (fun x1 h1 => (i_IsClue_ok N v0 h1)) (fun x1 hx1 h => ?_)
 refine avb ?_
 cases h;exact eq_by

theorem i_IsPuzzle_ok (N : Nat) (v0 : Gx.Puzzle) {r : Bool} (h : i_IsPuzzle N v0 = some r) : Pure Tryz.prog 191 [DV.agg (Gx.Puzzle.enc v0)] (DV.one (D.b r)) := by
 refine pure_of_walk Tryz.tok Tryz.mixed Tryz.func191 (by kernel_rfl) fun W => ?_
 unfold i_IsPuzzle at h
 refine avb ?_
 refine plb ?_;refine call_sel (E := fun (x : Int) => DV.one (D.i x)) h (fun x1 h1 => (i_FormOf_ok N v0.mGrid h1)) (fun x1 hx1 h => ?_)
 refine avb ?_
 refine brb h ?_ ?_<;>intro _ h
 ·cases h;exact eq_by
 ·refine plb ?_;refine call_sel (E := fun (x : (List (Gx.Slot))) => DV.one (D.sl 4 (List.map Gx.Slot.enc x))) h (fun x2 h1 => (i_SlotsOf_ok N v0.mGrid h1)) (fun x2 hx2 h => ?_)
  refine avb ?_
  refine lns (x2.length : Int) ?_
  refine avb ?_
  refine lns (v0.mClues.length : Int) ?_
  refine avb ?_
  refine brb h ?_ ?_<;>intro _ h
  ·refine lns (v0.mSeals.length : Int) ?_
   refine avb ?_
   refine brb h ?_ ?_<;>intro _ h
   ·refine plb ?_;refine call_sel (E := fun (x : Bool) => DV.one (D.b x)) h (fun x3 h1 => (i_InRange_ok N v0.mSalt 1 9999 h1)) (fun x3 hx3 h => ?_)
    refine avb ?_
    refine brb h ?_ ?_<;>intro _ h
    ·refine plb ?_;refine call_sel (E := fun (x : Bool) => DV.one (D.b x)) h (fun x4 h1 => (g_slices_ContainsFunc_Simpl_Clue_impl_Clue_ok0 N v0.mClues (fun a0 => i_IsPuzzle_1 N a0) 211 (fun a0 _ hh => i_IsPuzzle_1_ok N a0 hh) h1)) (fun x4 hx4 h => ?_)
     refine avb ?_
     cases h;exact eq_by
    ·cases h;exact eq_by
   ·cases h;exact eq_by
  ·cases h;exact eq_by

theorem i_openIn_ok (N : Nat) (v0 : List UInt8) {r : Int} (h : i_openIn N v0 = some r) : Pure Tryz.prog 212 [DV.one (D.s v0)] (DV.one (D.i r)) := by
 refine pure_of_walk Tryz.tok Tryz.mixed Tryz.func212 (by kernel_rfl) fun W => ?_
 unfold i_openIn at h
 refine ab0 ?_
 refine W.r_seq ?_
 refine ab0 ?_
 refine W.r_seq ?_
 refine ab0 ?_
 obtain ⟨zt1, h, gt1⟩ := bnd_some h
 refine W.r_cut (fun (t1 : Int) => ⟨[(3, .d (D.i t1))], [], 1000⟩) (fun t => t = zt1) ?_ ?_
 ·refine avb ?_
  refine lns (v0.length : Int) ?_
  refine avb ?_
  refine loop_lp (fun (p1 : Int × Int) => ⟨[(0, .d (D.s v0)), (3, .d (D.i p1.1)), (6, .d (D.i (v0.length : Int))), (7, .d (D.i p1.2))], [], 1000⟩) h ?_ ?_
  ·exact weak_by
  intro np1 p1 yp1 h hfp1
  unfold i_openIn_L1 at h
  refine avb ?_
  refine brb h ?_ ?_<;>intro _ h
  ·refine chk_sel h (fun q => q) (fun h => ?_)
   refine avb ?_
   refine brb h ?_ ?_<;>intro _ h
   ·exact lbk hfp1 h
   ·exact lbk hfp1 h
  ·have h := finr hfp1 h
   refine cut_at (p1.1) (some_in h) ?_
   exact weak_by
 rintro t1 rfl
 have h : _ = some _ := gt1
 refine avb ?_
 cases h;exact eq_by

theorem i_IsFull_ok (N : Nat) (v0 : Gx.Grid) (v1 : List UInt8) {r : Bool} (h : i_IsFull N v0 v1 = some r) : Pure Tryz.prog 192 [DV.agg (Gx.Grid.enc v0), DV.one (D.s v1)] (DV.one (D.b r)) := by
 refine pure_of_walk Tryz.tok Tryz.mixed Tryz.func192 (by kernel_rfl) fun W => ?_
 unfold i_IsFull at h
 refine avb ?_
 refine plb ?_;refine call_sel (E := fun (x : Bool) => DV.one (D.b x)) h (fun x1 h1 => (i_IsFill_ok N v0 v1 h1)) (fun x1 hx1 h => ?_)
 refine avb ?_
 refine brb h ?_ ?_<;>intro _ h
 ·refine plb ?_;refine call_sel (E := fun (x : Int) => DV.one (D.i x)) h (fun x2 h1 => (i_openIn_ok N v1 h1)) (fun x2 hx2 h => ?_)
  refine avb ?_
  cases h;exact eq_by
 ·cases h;exact eq_by

theorem i_readCells_ok (N : Nat) (v0 : List UInt8) (v1 : List (Int)) {r : (List UInt8)} (h : i_readCells N v0 v1 = some r) : Pure Tryz.prog 223 [DV.one (D.s v0), DV.one (D.sl 1 (List.map Gx.encI v1))] (DV.one (D.s r)) := by
 refine pure_of_walk Tryz.tok Tryz.mixed Tryz.func223 (by kernel_rfl) fun W => ?_
 unfold i_readCells at h
 refine ab0 ?_
 refine W.r_seq ?_
 refine ab0 ?_
 refine W.r_seq ?_
 refine ab0 ?_
 obtain ⟨zt2, h, gt2⟩ := bnd_some h
 refine W.r_cut (fun (t2 : (List (UInt8))) => ⟨[(5, .sl 1)], [(1, some (.arr 1 (List.map encU t2) true))], 1000⟩) (fun t => t = zt2) ?_ ?_
 ·refine avb ?_
  refine lns (v1.length : Int) ?_
  refine avb ?_
  refine loop_lp (fun (p1 : (List (UInt8)) × Int) => ⟨[(0, .d (D.s v0)), (5, .sl 1), (8, .d (D.sl 1 (List.map Gx.encI v1))), (9, .d (D.i (v1.length : Int))), (10, .d (D.i p1.2))], [(1, some (.arr 1 (List.map encU p1.1) true))], 1000⟩) h ?_ ?_
  ·exact weak_by
  intro np1 p1 yp1 h hfp1
  unfold i_readCells_L1 at h
  refine avb ?_
  refine brb h ?_ ?_<;>intro _ h
  ·refine idx_sel h (fun x1 hx1 h => ?_)
   refine avb ?_
   refine chk_sel h (fun q => q) (fun h => ?_)
   refine avb ?_
   refine app_sel h (app_ok (by (first|rfl|simp [sub])) (by (first|rfl|simp [sub])) (by decide)) (by (intro h; cases h)) (fun h => ?_)
   refine avb ?_
   exact lbk hfp1 h
  ·have h := finr hfp1 h
   refine cut_at (p1.1) (some_in h) ?_
   exact weak_by
 rintro t2 rfl
 have h : _ = some _ := gt2
 refine avb ?_
 refine ⟨t2, (by (exact eq_by)), ?_⟩
 refine avb ?_
 cases h;exact eq_by

theorem i_patterns_ok (N : Nat) (v0 : Gx.Grid) (v1 : List UInt8) {r : (List (List UInt8))} (h : i_patterns N v0 v1 = some r) : Pure Tryz.prog 213 [DV.agg (Gx.Grid.enc v0), DV.one (D.s v1)] (DV.one (D.sl 1 (List.map Gx.encS r))) := by
 refine pure_of_walk Tryz.tok Tryz.mixed Tryz.func213 (by kernel_rfl) fun W => ?_
 unfold i_patterns at h
 refine avb ?_
 refine plb ?_;refine call_sel (E := fun (x : Bool) => DV.one (D.b x)) h (fun x1 h1 => (i_IsFill_ok N v0 v1 h1)) (fun x1 hx1 h => ?_)
 refine avb ?_
 refine br_sel h (fun _ h => ?_) (fun _ h => ?_)
 ·refine avb ?_
  cases h;exact eq_by
 ·refine ab0 ?_
  refine W.r_seq ?_
  refine ab0 ?_
  obtain ⟨zt5, h, gt5⟩ := bnd_some h
  refine W.r_cut (fun (t5 : (List (List UInt8))) => ⟨[(5, .sl 1)], [(1, some (.arr 1 (List.map Gx.encS t5) true))], 1000⟩) (fun t => t = zt5) ?_ ?_
  ·refine avb ?_
   refine plb ?_;refine call_sel (E := fun (x : (List (List (Int)))) => DV.one (D.sl 1 (List.map (Gx.encL 1 Gx.encI) x))) h (fun x2 h1 => (i_layout_ok N v0 h1)) (fun x2 hx2 h => ?_)
   refine avb ?_
   refine lns (x2.length : Int) ?_
   refine avb ?_
   refine loop_lp (fun (p1 : (List (List UInt8)) × Int) => ⟨[(1, .d (D.s v1)), (5, .sl 1), (13, .sl 2), (14, .d (D.i (x2.length : Int))), (15, .d (D.i p1.2))], [(1, some (.arr 1 (List.map Gx.encS p1.1) true)), (2, some (.arr 1 (List.map (Gx.encL 1 Gx.encI) x2) true))], 1000⟩) h ?_ ?_
   ·exact weak_by
   intro np1 p1 yp1 h hfp1
   unfold i_patterns_L1 at h
   refine avb ?_
   refine brb h ?_ ?_<;>intro _ h
   ·refine idxp_sel h (fun x3 hx3 h => ?_)
    refine avb ?_
    refine ldp_sel hx3 ?_
    refine avb ?_
    refine plb ?_;refine call_sel (E := fun (x : (List UInt8)) => DV.one (D.s x)) h (fun x4 h1 => (i_readCells_ok N v1 x3 h1)) (fun x4 hx4 h => ?_)
    refine avb ?_
    refine app_sel h (app_ok (by (first|rfl|simp [sub])) (by (first|rfl|simp [sub])) (by decide)) (by (intro h; cases h)) (fun h => ?_)
    refine avb ?_
    exact lbk hfp1 h
   ·have h := finr hfp1 h
    refine cut_at (p1.1) (some_in h) ?_
    exact weak_by
  rintro t5 rfl
  have h : _ = some _ := gt5
  refine avb ?_
  cases h;exact eq_by

theorem i_LettersOf_ok (N : Nat) (v0 : List UInt8) {r : (List (Int))} (h : i_LettersOf N v0 = some r) : Pure Tryz.prog 230 [DV.one (D.s v0)] (DV.one (D.sl 1 (List.map Gx.encI r))) := by
 refine pure_of_walk Tryz.tok Tryz.mixed Tryz.func230 (by kernel_rfl) fun W => ?_
 unfold i_LettersOf at h
 refine ab0 ?_
 refine W.r_seq ?_
 refine ab0 ?_
 refine W.r_seq ?_
 refine ab0 ?_
 obtain ⟨zt1, h, gt1⟩ := bnd_some h
 refine W.r_cut (fun (t1 : (List (Int))) => ⟨[(3, .sl 1)], [(1, some (.arr 1 (List.map Gx.encI t1) true))], 1000⟩) (fun t => t = zt1) ?_ ?_
 ·refine avb ?_
  refine lns (v0.length : Int) ?_
  refine avb ?_
  refine loop_lp (fun (p1 : (List (Int)) × Int) => ⟨[(0, .d (D.s v0)), (3, .sl 1), (6, .d (D.i (v0.length : Int))), (7, .d (D.i p1.2))], [(1, some (.arr 1 (List.map Gx.encI p1.1) true))], 1000⟩) h ?_ ?_
  ·exact weak_by
  intro np1 p1 yp1 h hfp1
  unfold i_LettersOf_L1 at h
  refine avb ?_
  refine brb h ?_ ?_<;>intro _ h
  ·refine chk_sel h (fun q => q) (fun h => ?_)
   refine avb ?_
   refine app_sel h (app_ok (by (first|rfl|simp [sub])) (by (first|rfl|simp [sub])) (by decide)) (by (intro h; cases h)) (fun h => ?_)
   refine avb ?_
   exact lbk hfp1 h
  ·have h := finr hfp1 h
   refine cut_at (p1.1) (some_in h) ?_
   exact weak_by
 rintro t1 rfl
 have h : _ = some _ := gt1
 refine avb ?_
 cases h;exact eq_by

theorem i_Mod_ok (N : Nat) (v0 : Int) (v1 : Int) {r : Int} (h : i_Mod N v0 v1 = some r) : Pure Tryz.prog 233 [DV.one (D.i v0), DV.one (D.i v1)] (DV.one (D.i r)) := by
 refine pure_of_walk Tryz.tok Tryz.mixed Tryz.func233 (by kernel_rfl) fun W => ?_
 unfold i_Mod at h
 refine avb ?_
 refine plb ?_;refine call_sel (E := fun (x : Bool) => DV.one (D.b x)) h (fun x1 h1 => (i_InRange_ok N v1 1 1000000000000 h1)) (fun x1 hx1 h => ?_)
 refine avb ?_
 refine brb h ?_ ?_<;>intro _ h
 ·cases h;exact eq_by
 ·refine chk_sel h (fun q => q) (fun h => ?_)
  refine avb ?_
  refine chk_sel h (fun q => q) (fun h => ?_)
  refine avb ?_
  cases h;exact eq_by

theorem i_Hash_ok (N : Nat) (v0 : List (Int)) {r : Int} (h : i_Hash N v0 = some r) : Pure Tryz.prog 229 [DV.one (D.sl 1 (List.map Gx.encI v0))] (DV.one (D.i r)) := by
 refine pure_of_walk Tryz.tok Tryz.mixed Tryz.func229 (by kernel_rfl) fun W => ?_
 unfold i_Hash at h
 refine ab0 ?_
 refine W.r_seq ?_
 refine ab0 ?_
 refine W.r_seq ?_
 refine ab0 ?_
 obtain ⟨zt3, h, gt3⟩ := bnd_some h
 refine W.r_cut (fun (t3 : Int) => ⟨[(3, .d (D.i t3))], [], 1000⟩) (fun t => t = zt3) ?_ ?_
 ·refine avb ?_
  refine lns (v0.length : Int) ?_
  refine avb ?_
  refine loop_lp (fun (p1 : Int × Int) => ⟨[(3, .d (D.i p1.1)), (6, .d (D.sl 1 (List.map Gx.encI v0))), (7, .d (D.i (v0.length : Int))), (8, .d (D.i p1.2))], [], 1000⟩) h ?_ ?_
  ·exact weak_by
  intro np1 p1 yp1 h hfp1
  unfold i_Hash_L1 at h
  refine avb ?_
  refine brb h ?_ ?_<;>intro _ h
  ·refine idx_sel h (fun x1 hx1 h => ?_)
   refine avb ?_
   refine plb ?_;refine call_sel (E := fun (x : Int) => DV.one (D.i x)) h (fun x2 h1 => (i_Mod_ok N x1 2147483647 h1)) (fun x2 hx2 h => ?_)
   refine avb ?_
   refine chk_sel h (fun q => q) (fun h => ?_)
   refine avb ?_
   exact lbk hfp1 h
  ·have h := finr hfp1 h
   refine cut_at (p1.1) (some_in h) ?_
   exact weak_by
 rintro t3 rfl
 have h : _ = some _ := gt3
 refine avb ?_
 cases h;exact eq_by

theorem i_SealAnswer_ok (N : Nat) (v0 : Int) (v1 : Int) (v2 : List UInt8) {r : Int} (h : i_SealAnswer N v0 v1 v2 = some r) : Pure Tryz.prog 224 [DV.one (D.i v0), DV.one (D.i v1), DV.one (D.s v2)] (DV.one (D.i r)) := by
 refine pure_of_walk Tryz.tok Tryz.mixed Tryz.func224 (by kernel_rfl) fun W => ?_
 unfold i_SealAnswer at h
 refine avb ?_
 refine plb ?_;refine call_sel (E := fun (x : Bool) => DV.one (D.b x)) h (fun x1 h1 => (i_IsWord_ok N v2 h1)) (fun x1 hx1 h => ?_)
 refine avb ?_
 refine brb h ?_ ?_<;>intro _ h
 ·cases h;exact eq_by
 ·refine lns (v2.length : Int) ?_
  refine avb ?_
  refine plb ?_;refine call_sel (E := fun (x : (List (Int))) => DV.one (D.sl 1 (List.map Gx.encI x))) h (fun x2 h1 => (i_LettersOf_ok N v2 h1)) (fun x2 hx2 h => ?_)
  refine avb ?_
  refine app_sel h (app_ok (by (first|rfl|simp [sub])) (by (first|rfl|simp [sub])) (by decide)) (by (intro h; cases h)) (fun h => ?_)
  refine avb ?_
  refine plb ?_;refine call_sel (E := fun (x : Int) => DV.one (D.i x)) h (fun x3 h1 => (pure_args (by (exact eq_by)) (i_Hash_ok N (([v0, v1, (v2.length : Int)]) ++ x2) h1))) (fun x3 hx3 h => ?_)
  refine avb ?_
  cases h;exact eq_by

theorem i_ChecksAnswer_ok (N : Nat) (v0 : List (Int)) (v1 : Int) (v2 : Int) (v3 : List UInt8) {r : Bool} (h : i_ChecksAnswer N v0 v1 v2 v3 = some r) : Pure Tryz.prog 214 [DV.one (D.sl 1 (List.map Gx.encI v0)), DV.one (D.i v1), DV.one (D.i v2), DV.one (D.s v3)] (DV.one (D.b r)) := by
 refine pure_of_walk Tryz.tok Tryz.mixed Tryz.func214 (by kernel_rfl) fun W => ?_
 unfold i_ChecksAnswer at h
 refine avb ?_
 refine lns (v0.length : Int) ?_
 refine avb ?_
 refine plb ?_;refine call_sel (E := fun (x : Bool) => DV.one (D.b x)) h (fun x1 h1 => (i_at_ok N v2 (v0.length : Int) h1)) (fun x1 hx1 h => ?_)
 refine avb ?_
 refine brb h ?_ ?_<;>intro _ h
 ·refine plb ?_;refine call_sel (E := fun (x : Bool) => DV.one (D.b x)) h (fun x2 h1 => (i_IsWord_ok N v3 h1)) (fun x2 hx2 h => ?_)
  refine avb ?_
  refine brb h ?_ ?_<;>intro _ h
  ·refine plb ?_;refine call_sel (E := fun (x : Int) => DV.one (D.i x)) h (fun x3 h1 => (i_SealAnswer_ok N v1 v2 v3 h1)) (fun x3 hx3 h => ?_)
   refine avb ?_
   refine idx_sel h (fun x4 hx4 h => ?_)
   refine avb ?_
   cases h;exact eq_by
  ·cases h;exact eq_by
 ·cases h;exact eq_by

theorem i_RightSlots_ok (N : Nat) (v0 : Gx.Grid) (v1 : List UInt8) (v2 : List (Int)) (v3 : Int) {r : (List (Int))} (h : i_RightSlots N v0 v1 v2 v3 = some r) : Pure Tryz.prog 193 [DV.agg (Gx.Grid.enc v0), DV.one (D.s v1), DV.one (D.sl 1 (List.map Gx.encI v2)), DV.one (D.i v3)] (DV.one (D.sl 1 (List.map Gx.encI r))) := by
 refine pure_of_walk Tryz.tok Tryz.mixed Tryz.func193 (by kernel_rfl) fun W => ?_
 unfold i_RightSlots at h
 refine ab0 ?_
 refine W.r_seq ?_
 refine ab0 ?_
 refine W.r_seq ?_
 refine ab0 ?_
 obtain ⟨zt4, h, gt4⟩ := bnd_some h
 refine W.r_cut (fun (t4 : (List (Int))) => ⟨[(9, .sl 1)], [(1, some (.arr 1 (List.map Gx.encI t4) true))], 1000⟩) (fun t => t = zt4) ?_ ?_
 ·refine avb ?_
  refine plb ?_;refine call_sel (E := fun (x : (List (List UInt8))) => DV.one (D.sl 1 (List.map Gx.encS x))) h (fun x1 h1 => (i_patterns_ok N v0 v1 h1)) (fun x1 hx1 h => ?_)
  refine avb ?_
  refine lns (x1.length : Int) ?_
  refine avb ?_
  refine loop_lp (fun (p1 : (List (Int)) × Int) => ⟨[(2, .d (D.sl 1 (List.map Gx.encI v2))), (3, .d (D.i v3)), (9, .sl 1), (14, .sl 2), (15, .d (D.i (x1.length : Int))), (16, .d (D.i p1.2))], [(1, some (.arr 1 (List.map Gx.encI p1.1) true)), (2, some (.arr 1 (List.map Gx.encS x1) true))], 1000⟩) h ?_ ?_
  ·exact weak_by
  intro np1 p1 yp1 h hfp1
  unfold i_RightSlots_L1 at h
  refine avb ?_
  refine brb h ?_ ?_<;>intro _ h
  ·refine idxp_sel h (fun x2 hx2 h => ?_)
   refine avb ?_
   refine ldp_sel hx2 ?_
   refine avb ?_
   refine plb ?_;refine call_sel (E := fun (x : Bool) => DV.one (D.b x)) h (fun x3 h1 => (i_ChecksAnswer_ok N v2 v3 p1.2 x2 h1)) (fun x3 hx3 h => ?_)
   refine avb ?_
   refine brb h ?_ ?_<;>intro _ h
   ·refine app_sel h (app_ok (by (first|rfl|simp [sub])) (by (first|rfl|simp [sub])) (by decide)) (by (intro h; cases h)) (fun h => ?_)
    refine avb ?_
    exact lbk hfp1 h
   ·exact lbk hfp1 h
  ·have h := finr hfp1 h
   refine cut_at (p1.1) (some_in h) ?_
   exact weak_by
 rintro t4 rfl
 have h : _ = some _ := gt4
 refine avb ?_
 cases h;exact eq_by

theorem i_IsSolved_ok (N : Nat) (v0 : Gx.Puzzle) (v1 : List UInt8) {r : Bool} (h : i_IsSolved N v0 v1 = some r) : Pure Tryz.prog 161 [DV.agg (Gx.Puzzle.enc v0), DV.one (D.s v1)] (DV.one (D.b r)) := by
 refine pure_of_walk Tryz.tok Tryz.mixed Tryz.func161 (by kernel_rfl) fun W => ?_
 unfold i_IsSolved at h
 refine avb ?_
 refine plb ?_;refine call_sel (E := fun (x : Bool) => DV.one (D.b x)) h (fun x1 h1 => (i_IsPuzzle_ok N v0 h1)) (fun x1 hx1 h => ?_)
 refine avb ?_
 refine brb h ?_ ?_<;>intro _ h
 ·refine plb ?_;refine call_sel (E := fun (x : Bool) => DV.one (D.b x)) h (fun x2 h1 => (i_IsFull_ok N v0.mGrid v1 h1)) (fun x2 hx2 h => ?_)
  refine avb ?_
  refine brb h ?_ ?_<;>intro _ h
  ·refine plb ?_;refine call_sel (E := fun (x : (List (Int))) => DV.one (D.sl 1 (List.map Gx.encI x))) h (fun x3 h1 => (i_RightSlots_ok N v0.mGrid v1 v0.mSeals v0.mSalt h1)) (fun x3 hx3 h => ?_)
   refine avb ?_
   refine lns (x3.length : Int) ?_
   refine avb ?_
   refine lns (v0.mSeals.length : Int) ?_
   refine avb ?_
   cases h;exact eq_by
  ·cases h;exact eq_by
 ·cases h;exact eq_by

theorem i_IsIssue_ok (N : Nat) (v0 : Gx.Issue) {r : Bool} (h : i_IsIssue N v0 = some r) : Pure Tryz.prog 118 [DV.agg (Gx.Issue.enc v0)] (DV.one (D.b r)) := by
 refine pure_of_walk Tryz.tok Tryz.mixed Tryz.func118 (by kernel_rfl) fun W => ?_
 unfold i_IsIssue at h
 refine avb ?_
 refine plb ?_;refine call_sel (E := fun (x : Bool) => DV.one (D.b x)) h (fun x1 h1 => (i_InRange_ok N v0.mNumber 1 999 h1)) (fun x1 hx1 h => ?_)
 refine avb ?_
 refine brb h ?_ ?_<;>intro _ h
 ·refine plb ?_;refine call_sel (E := fun (x : Bool) => DV.one (D.b x)) h (fun x2 h1 => (i_IsSolved_ok N v0.mPuzzle v0.mFill h1)) (fun x2 hx2 h => ?_)
  refine avb ?_
  refine brb h ?_ ?_<;>intro _ h
  ·refine brb h ?_ ?_<;>intro _ h
   ·refine brb h ?_ ?_<;>intro _ h
    ·cases h;exact eq_by
    ·cases h;exact eq_by
   ·cases h;exact eq_by
  ·cases h;exact eq_by
 ·cases h;exact eq_by

theorem i_beforeUse_ok (N : Nat) (v0 : Gx.Used) (v1 : Gx.Used) {r : Bool} (h : i_beforeUse N v0 v1 = some r) : Pure Tryz.prog 162 [DV.agg (Gx.Used.enc v0), DV.agg (Gx.Used.enc v1)] (DV.one (D.b r)) := by
 refine pure_of_walk Tryz.tok Tryz.mixed Tryz.func162 (by kernel_rfl) fun W => ?_
 unfold i_beforeUse at h
 refine avb ?_
 refine brb h ?_ ?_<;>intro _ h
 ·cases h;exact eq_by
 ·refine plb ?_;refine call_sel (E := fun (x : Bool) => DV.one (D.b x)) h (fun x1 h1 => (i_BeforeWord_ok N v0.mWord v1.mWord h1)) (fun x1 hx1 h => ?_)
  refine avb ?_
  cases h;exact eq_by

theorem i_AreUses_ok (N : Nat) (v0 : List (Gx.Used)) {r : Bool} (h : i_AreUses N v0 = some r) : Pure Tryz.prog 119 [DV.one (D.sl 2 (List.map Gx.Used.enc v0))] (DV.one (D.b r)) := by
 refine pure_of_walk Tryz.tok Tryz.mixed Tryz.func119 (by kernel_rfl) fun W => ?_
 unfold i_AreUses at h
 refine avb ?_
 refine lns (v0.length : Int) ?_
 refine avb ?_
 refine br_sel h (fun _ h => ?_) (fun _ h => ?_)
 ·refine avb ?_
  cases h;exact eq_by
 ·refine ab0 ?_
  obtain ⟨zt8, h, gt8⟩ := cutb_some h
  refine W.r_cut (fun (t8 : Unit) => ⟨[], [], 1000⟩) (fun t => .nx t = zt8) ?_ ?_
  ·refine avb ?_
   refine lns (v0.length : Int) ?_
   refine avb ?_
   refine loop_lp (fun (p1 : Int) => ⟨[(0, .d (D.sl 2 (List.map Gx.Used.enc v0))), (8, .d (D.sl 2 (List.map Gx.Used.enc v0))), (9, .d (D.i (v0.length : Int))), (10, .d (D.i p1))], [], 1000⟩) h ?_ ?_
   ·exact weak_by
   intro np1 p1 yp1 h hfp1
   unfold i_AreUses_L1 at h
   refine avb ?_
   refine brb h ?_ ?_<;>intro _ h
   ·refine idx_sel h (fun x1 hx1 h => ?_)
    refine avb ?_
    refine brb h ?_ ?_<;>intro _ h
    ·refine idx_sel h (fun x2 hx2 h => ?_)
     refine avb ?_
     refine plb ?_;refine call_sel (E := fun (x : Bool) => DV.one (D.b x)) h (fun x3 h1 => (i_beforeUse_ok N x2 x1 h1)) (fun x3 hx3 h => ?_)
     refine avb ?_
     refine brb h ?_ ?_<;>intro _ h
     ·have h := finr hfp1 h
      have h := cutr gt8 h
      cases h;exact eq_by
     ·refine plb ?_;refine call_sel (E := fun (x : Bool) => DV.one (D.b x)) h (fun x4 h1 => (i_IsWord_ok N x1.mWord h1)) (fun x4 hx4 h => ?_)
      refine avb ?_
      refine brb h ?_ ?_<;>intro _ h
      ·have h := finr hfp1 h
       have h := cutr gt8 h
       cases h;exact eq_by
      ·refine plb ?_;refine call_sel (E := fun (x : Bool) => DV.one (D.b x)) h (fun x5 h1 => (i_InRange_ok N x1.mIssue 1 999 h1)) (fun x5 hx5 h => ?_)
       refine avb ?_
       refine brb h ?_ ?_<;>intro _ h
       ·have h := finr hfp1 h
        have h := cutr gt8 h
        cases h;exact eq_by
       ·exact lbk hfp1 h
    ·refine plb ?_;refine call_sel (E := fun (x : Bool) => DV.one (D.b x)) h (fun x6 h1 => (i_IsWord_ok N x1.mWord h1)) (fun x6 hx6 h => ?_)
     refine avb ?_
     refine brb h ?_ ?_<;>intro _ h
     ·have h := finr hfp1 h
      have h := cutr gt8 h
      cases h;exact eq_by
     ·refine plb ?_;refine call_sel (E := fun (x : Bool) => DV.one (D.b x)) h (fun x7 h1 => (i_InRange_ok N x1.mIssue 1 999 h1)) (fun x7 hx7 h => ?_)
      refine avb ?_
      refine brb h ?_ ?_<;>intro _ h
      ·have h := finr hfp1 h
       have h := cutr gt8 h
       cases h;exact eq_by
      ·exact lbk hfp1 h
   ·have h := finr hfp1 h
    refine cut_at (()) (some_in h) ?_
    exact weak_by
  rintro t8 rfl
  have h : _ = some _ := gt8
  refine avb ?_
  cases h;exact eq_by

theorem i_AreCorrections_ok (N : Nat) (v0 : List (Gx.Correction)) {r : Bool} (h : i_AreCorrections N v0 = some r) : Pure Tryz.prog 120 [DV.one (D.sl 5 (List.map Gx.Correction.enc v0))] (DV.one (D.b r)) := by
 refine pure_of_walk Tryz.tok Tryz.mixed Tryz.func120 (by kernel_rfl) fun W => ?_
 unfold i_AreCorrections at h
 refine avb ?_
 refine lns (v0.length : Int) ?_
 refine avb ?_
 refine br_sel h (fun _ h => ?_) (fun _ h => ?_)
 ·refine avb ?_
  cases h;exact eq_by
 ·refine ab0 ?_
  obtain ⟨zt7, h, gt7⟩ := cutb_some h
  refine W.r_cut (fun (t7 : Unit) => ⟨[], [], 1000⟩) (fun t => .nx t = zt7) ?_ ?_
  ·refine avb ?_
   refine lns (v0.length : Int) ?_
   refine avb ?_
   refine loop_lp (fun (p1 : Int) => ⟨[(0, .d (D.sl 5 (List.map Gx.Correction.enc v0))), (8, .d (D.sl 5 (List.map Gx.Correction.enc v0))), (9, .d (D.i (v0.length : Int))), (10, .d (D.i p1))], [], 1000⟩) h ?_ ?_
   ·exact weak_by
   intro np1 p1 yp1 h hfp1
   unfold i_AreCorrections_L1 at h
   refine avb ?_
   refine brb h ?_ ?_<;>intro _ h
   ·refine idx_sel h (fun x1 hx1 h => ?_)
    refine avb ?_
    refine plb ?_;refine call_sel (E := fun (x : Bool) => DV.one (D.b x)) h (fun x2 h1 => (i_InRange_ok N x1.mIssue 1 999 h1)) (fun x2 hx2 h => ?_)
    refine avb ?_
    refine brb h ?_ ?_<;>intro _ h
    ·have h := finr hfp1 h
     have h := cutr gt7 h
     cases h;exact eq_by
    ·refine plb ?_;refine call_sel (E := fun (x : Bool) => DV.one (D.b x)) h (fun x3 h1 => (i_InRange_ok N x1.mSlot 0 99 h1)) (fun x3 hx3 h => ?_)
     refine avb ?_
     refine brb h ?_ ?_<;>intro _ h
     ·have h := finr hfp1 h
      have h := cutr gt7 h
      cases h;exact eq_by
     ·refine plb ?_;refine call_sel (E := fun (x : Bool) => DV.one (D.b x)) h (fun x4 h1 => (i_IsClue_ok N x1.mClue h1)) (fun x4 hx4 h => ?_)
      refine avb ?_
      refine brb h ?_ ?_<;>intro _ h
      ·have h := finr hfp1 h
       have h := cutr gt7 h
       cases h;exact eq_by
      ·refine plb ?_;refine call_sel (E := fun (x : Bool) => DV.one (D.b x)) h (fun x5 h1 => (i_InRange_ok N x1.mTick 0 1000 h1)) (fun x5 hx5 h => ?_)
       refine avb ?_
       refine brb h ?_ ?_<;>intro _ h
       ·have h := finr hfp1 h
        have h := cutr gt7 h
        cases h;exact eq_by
       ·refine brb h ?_ ?_<;>intro _ h
        ·refine idx_sel h (fun x6 hx6 h => ?_)
         refine avb ?_
         refine brb h ?_ ?_<;>intro _ h
         ·have h := finr hfp1 h
          have h := cutr gt7 h
          cases h;exact eq_by
         ·exact lbk hfp1 h
        ·exact lbk hfp1 h
   ·have h := finr hfp1 h
    refine cut_at (()) (some_in h) ?_
    exact weak_by
  rintro t7 rfl
  have h : _ = some _ := gt7
  refine avb ?_
  cases h;exact eq_by

theorem i_IssueOf_ok (N : Nat) (v0 : Gx.House) (v1 : Int) {r : Gx.Issue × Bool} (h : i_IssueOf N v0 v1 = some r) : Pure Tryz.prog 122 [DV.agg (Gx.House.enc v0), DV.one (D.i v1)] (DV.tup [DV.agg (Gx.Issue.enc r.1), DV.one (D.b r.2)]) := by
 refine pure_of_walk Tryz.tok Tryz.mixed Tryz.func122 (by kernel_rfl) fun W => ?_
 unfold i_IssueOf at h
 refine ab0 ?_
 refine W.r_seq ?_
 refine ab0 ?_
 obtain ⟨zt3, h, gt3⟩ := cutb_some h
 refine W.r_cut (fun (t3 : Unit) => ⟨[(4, .ptr 1 0 0)], [(1, some (.box [.d (D.i 0), .d (D.i 0), .d (D.i 0), .d (D.s ([] : List UInt8)), .d (D.sl 2 (List.map Gx.Clue.enc ([]))), .d (D.sl 1 (List.map Gx.encI ([]))), .d (D.i 0), .d (D.s ([] : List UInt8)), .d (D.i 0), .d (D.i 0)]))], 1000⟩) (fun t => .nx t = zt3) ?_ ?_
 ·refine avb ?_
  refine lns (v0.mIssues.length : Int) ?_
  refine avb ?_
  refine loop_lp (fun (p1 : Int) => ⟨[(1, .d (D.i v1)), (4, .ptr 1 0 0), (9, .d (D.sl 10 (List.map Gx.Issue.enc v0.mIssues))), (10, .d (D.i (v0.mIssues.length : Int))), (11, .d (D.i p1))], [(1, some (.box [.d (D.i 0), .d (D.i 0), .d (D.i 0), .d (D.s ([] : List UInt8)), .d (D.sl 2 (List.map Gx.Clue.enc ([]))), .d (D.sl 1 (List.map Gx.encI ([]))), .d (D.i 0), .d (D.s ([] : List UInt8)), .d (D.i 0), .d (D.i 0)]))], 1000⟩) h ?_ ?_
  ·exact weak_by
  intro np1 p1 yp1 h hfp1
  unfold i_IssueOf_L1 at h
  refine avb ?_
  refine brb h ?_ ?_<;>intro _ h
  ·refine idx_sel h (fun x1 hx1 h => ?_)
   refine avb ?_
   refine brb h ?_ ?_<;>intro _ h
   ·refine plb ?_;refine call_sel (E := fun (x : Gx.Issue) => DV.agg (Gx.Issue.enc x)) h (fun x2 h1 => (i_copyIssue_ok N x1 h1)) (fun x2 hx2 h => ?_)
    refine avb ?_
    have h := finr hfp1 h
    have h := cutr gt3 h
    cases h;exact eq_by
   ·exact lbk hfp1 h
  ·have h := finr hfp1 h
   refine cut_at (()) (some_in h) ?_
   exact weak_by
 rintro t3 rfl
 have h : _ = some _ := gt3
 refine avb ?_
 cases h;exact eq_by

theorem i_IsOpen_ok (N : Nat) (v0 : Gx.Issue) (v1 : Int) {r : Bool} (h : i_IsOpen N v0 v1 = some r) : Pure Tryz.prog 163 [DV.agg (Gx.Issue.enc v0), DV.one (D.i v1)] (DV.one (D.b r)) := by
 refine pure_of_walk Tryz.tok Tryz.mixed Tryz.func163 (by kernel_rfl) fun W => ?_
 unfold i_IsOpen at h
 refine avb ?_
 refine brb h ?_ ?_<;>intro _ h
 ·cases h;exact eq_by
 ·cases h;exact eq_by

theorem i_IsEntry_ok (N : Nat) (v0 : Gx.Entry) (v1 : Gx.Issue) {r : Bool} (h : i_IsEntry N v0 v1 = some r) : Pure Tryz.prog 123 [DV.agg (Gx.Entry.enc v0), DV.agg (Gx.Issue.enc v1)] (DV.one (D.b r)) := by
 refine pure_of_walk Tryz.tok Tryz.mixed Tryz.func123 (by kernel_rfl) fun W => ?_
 unfold i_IsEntry at h
 refine avb ?_
 refine plb ?_;refine call_sel (E := fun (x : Bool) => DV.one (D.b x)) h (fun x1 h1 => (i_InRange_ok N v0.mPlayer 1 99 h1)) (fun x1 hx1 h => ?_)
 refine avb ?_
 refine brb h ?_ ?_<;>intro _ h
 ·refine brb h ?_ ?_<;>intro _ h
  ·refine plb ?_;refine call_sel (E := fun (x : Bool) => DV.one (D.b x)) h (fun x2 h1 => (i_IsIssue_ok N v1 h1)) (fun x2 hx2 h => ?_)
   refine avb ?_
   refine brb h ?_ ?_<;>intro _ h
   ·refine plb ?_;refine call_sel (E := fun (x : Bool) => DV.one (D.b x)) h (fun x3 h1 => (i_IsOpen_ok N v1 v0.mTick h1)) (fun x3 hx3 h => ?_)
    refine avb ?_
    refine brb h ?_ ?_<;>intro _ h
    ·refine plb ?_;refine call_sel (E := fun (x : Bool) => DV.one (D.b x)) h (fun x4 h1 => (i_IsFill_ok N v1.mPuzzle.mGrid v0.mFill h1)) (fun x4 hx4 h => ?_)
     refine avb ?_
     cases h;exact eq_by
    ·cases h;exact eq_by
   ·cases h;exact eq_by
  ·cases h;exact eq_by
 ·cases h;exact eq_by

theorem i_IsHouse_ok (N : Nat) (v0 : Gx.House) {r : Bool} (h : i_IsHouse N v0 = some r) : Pure Tryz.prog 58 [DV.agg (Gx.House.enc v0)] (DV.one (D.b r)) := by
 refine pure_of_walk Tryz.tok Tryz.mixed Tryz.func58 (by kernel_rfl) fun W => ?_
 unfold i_IsHouse at h
 refine ab0 ?_
 refine W.r_seq ?_
 refine ab0 ?_
 obtain ⟨zt5, h, gt5⟩ := cutb_some h
 refine W.r_cut (fun (t5 : Unit) => ⟨[(1, .ptr 1 0 0)], [(1, some (.box [.d (D.sl 4 (List.map Gx.Listed.enc v0.mList)), .d (D.sl 2 (List.map Gx.Meaning.enc v0.mDict)), .d (D.i v0.mDesk.mGrid.mRows), .d (D.i v0.mDesk.mGrid.mCols), .d (D.s v0.mDesk.mGrid.mCells), .d (D.s v0.mDesk.mFill), .d (D.sl 2 (List.map Gx.Clue.enc v0.mDesk.mClues)), .d (D.i v0.mDesk.mVersion), .d (D.sl 10 (List.map Gx.Issue.enc v0.mIssues)), .d (D.sl 2 (List.map Gx.Used.enc v0.mUses)), .d (D.sl 5 (List.map Gx.Correction.enc v0.mCorrections)), .d (D.sl 4 (List.map Gx.Entry.enc v0.mEntries)), .d (D.i v0.mNow)]))], 1000⟩) (fun t => .nx t = zt5) ?_ ?_
 ·refine avb ?_
  refine plb ?_;refine call_sel (E := fun (x : Bool) => DV.one (D.b x)) h (fun x1 h1 => (i_IsList_ok N v0.mList h1)) (fun x1 hx1 h => ?_)
  refine avb ?_
  refine brb h ?_ ?_<;>intro _ h
  ·have h := cutr gt5 h
   cases h;exact eq_by
  ·refine plb ?_;refine call_sel (E := fun (x : Bool) => DV.one (D.b x)) h (fun x2 h1 => (i_IsDictionary_ok N v0.mDict h1)) (fun x2 hx2 h => ?_)
   refine avb ?_
   refine brb h ?_ ?_<;>intro _ h
   ·have h := cutr gt5 h
    cases h;exact eq_by
   ·refine plb ?_;refine call_sel (E := fun (x : Bool) => DV.one (D.b x)) h (fun x3 h1 => (i_EqualDrafts_ok N v0.mDesk (⟨(⟨0, 0, ([] : List UInt8)⟩ : Gx.Grid), ([] : List UInt8), [], 0⟩ : Gx.Draft) h1)) (fun x3 hx3 h => ?_)
    refine avb ?_
    refine brb h ?_ ?_<;>intro _ h
    ·refine plb ?_;refine call_sel (E := fun (x : Bool) => DV.one (D.b x)) h (fun x4 h1 => (i_IsDraft_ok N v0.mDesk h1)) (fun x4 hx4 h => ?_)
     refine avb ?_
     refine brb h ?_ ?_<;>intro _ h
     ·have h := cutr gt5 h
      cases h;exact eq_by
     ·refine lns (v0.mIssues.length : Int) ?_
      refine avb ?_
      refine brb h ?_ ?_<;>intro _ h
      ·have h := cutr gt5 h
       cases h;exact eq_by
      ·refine cut_at (()) (some_in h) ?_
       exact weak_by
    ·refine lns (v0.mIssues.length : Int) ?_
     refine avb ?_
     refine brb h ?_ ?_<;>intro _ h
     ·have h := cutr gt5 h
      cases h;exact eq_by
     ·refine cut_at (()) (some_in h) ?_
      exact weak_by
 rintro t5 rfl
 have h : _ = some _ := gt5
 refine ab0 ?_
 obtain ⟨zt8, h, gt8⟩ := cutb_some h
 refine W.r_cut (fun (t8 : Unit) => ⟨[(1, .ptr 1 0 0)], [(1, some (.box [.d (D.sl 4 (List.map Gx.Listed.enc v0.mList)), .d (D.sl 2 (List.map Gx.Meaning.enc v0.mDict)), .d (D.i v0.mDesk.mGrid.mRows), .d (D.i v0.mDesk.mGrid.mCols), .d (D.s v0.mDesk.mGrid.mCells), .d (D.s v0.mDesk.mFill), .d (D.sl 2 (List.map Gx.Clue.enc v0.mDesk.mClues)), .d (D.i v0.mDesk.mVersion), .d (D.sl 10 (List.map Gx.Issue.enc v0.mIssues)), .d (D.sl 2 (List.map Gx.Used.enc v0.mUses)), .d (D.sl 5 (List.map Gx.Correction.enc v0.mCorrections)), .d (D.sl 4 (List.map Gx.Entry.enc v0.mEntries)), .d (D.i v0.mNow)]))], 1000⟩) (fun t => .nx t = zt8) ?_ ?_
 ·refine avb ?_
  refine lns (v0.mIssues.length : Int) ?_
  refine avb ?_
  refine loop_lp (fun (p1 : Int) => ⟨[(1, .ptr 1 0 0), (43, .d (D.sl 10 (List.map Gx.Issue.enc v0.mIssues))), (44, .d (D.i (v0.mIssues.length : Int))), (45, .d (D.i p1))], [(1, some (.box [.d (D.sl 4 (List.map Gx.Listed.enc v0.mList)), .d (D.sl 2 (List.map Gx.Meaning.enc v0.mDict)), .d (D.i v0.mDesk.mGrid.mRows), .d (D.i v0.mDesk.mGrid.mCols), .d (D.s v0.mDesk.mGrid.mCells), .d (D.s v0.mDesk.mFill), .d (D.sl 2 (List.map Gx.Clue.enc v0.mDesk.mClues)), .d (D.i v0.mDesk.mVersion), .d (D.sl 10 (List.map Gx.Issue.enc v0.mIssues)), .d (D.sl 2 (List.map Gx.Used.enc v0.mUses)), .d (D.sl 5 (List.map Gx.Correction.enc v0.mCorrections)), .d (D.sl 4 (List.map Gx.Entry.enc v0.mEntries)), .d (D.i v0.mNow)]))], 1000⟩) h ?_ ?_
  ·exact weak_by
  intro np1 p1 yp1 h hfp1
  unfold i_IsHouse_L1 at h
  refine avb ?_
  refine brb h ?_ ?_<;>intro _ h
  ·refine idx_sel h (fun x6 hx6 h => ?_)
   refine avb ?_
   refine plb ?_;refine call_sel (E := fun (x : Bool) => DV.one (D.b x)) h (fun x7 h1 => (i_IsIssue_ok N x6 h1)) (fun x7 hx7 h => ?_)
   refine avb ?_
   refine brb h ?_ ?_<;>intro _ h
   ·have h := finr hfp1 h
    have h := cutr gt8 h
    cases h;exact eq_by
   ·refine brb h ?_ ?_<;>intro _ h
    ·have h := finr hfp1 h
     have h := cutr gt8 h
     cases h;exact eq_by
    ·exact lbk hfp1 h
  ·have h := finr hfp1 h
   refine cut_at (()) (some_in h) ?_
   exact weak_by
 rintro t8 rfl
 have h : _ = some _ := gt8
 refine avb ?_
 refine plb ?_;refine call_sel (E := fun (x : Bool) => DV.one (D.b x)) h (fun x9 h1 => (i_AreUses_ok N v0.mUses h1)) (fun x9 hx9 h => ?_)
 refine avb ?_
 refine brb h ?_ ?_<;>intro _ h
 ·cases h;exact eq_by
 ·refine plb ?_;refine call_sel (E := fun (x : Bool) => DV.one (D.b x)) h (fun x10 h1 => (i_AreCorrections_ok N v0.mCorrections h1)) (fun x10 hx10 h => ?_)
  refine avb ?_
  refine brb h ?_ ?_<;>intro _ h
  ·cases h;exact eq_by
  ·refine lns (v0.mEntries.length : Int) ?_
   refine avb ?_
   refine brb h ?_ ?_<;>intro _ h
   ·cases h;exact eq_by
   ·refine plb ?_;refine call_sel (E := fun (x : Bool) => DV.one (D.b x)) h (fun x11 h1 => (i_InRange_ok N v0.mNow 0 1000 h1)) (fun x11 hx11 h => ?_)
    refine avb ?_
    refine br_sel h (fun _ h => ?_) (fun _ h => ?_)
    ·refine avb ?_
     cases h;exact eq_by
    ·refine ab0 ?_
     obtain ⟨zt15, h, gt15⟩ := cutb_some h
     refine W.r_cut (fun (t15 : Unit) => ⟨[(1, .ptr 1 0 0)], [(1, some (.box [.d (D.sl 4 (List.map Gx.Listed.enc v0.mList)), .d (D.sl 2 (List.map Gx.Meaning.enc v0.mDict)), .d (D.i v0.mDesk.mGrid.mRows), .d (D.i v0.mDesk.mGrid.mCols), .d (D.s v0.mDesk.mGrid.mCells), .d (D.s v0.mDesk.mFill), .d (D.sl 2 (List.map Gx.Clue.enc v0.mDesk.mClues)), .d (D.i v0.mDesk.mVersion), .d (D.sl 10 (List.map Gx.Issue.enc v0.mIssues)), .d (D.sl 2 (List.map Gx.Used.enc v0.mUses)), .d (D.sl 5 (List.map Gx.Correction.enc v0.mCorrections)), .d (D.sl 4 (List.map Gx.Entry.enc v0.mEntries)), .d (D.i v0.mNow)]))], 1000⟩) (fun t => .nx t = zt15) ?_ ?_
     ·refine avb ?_
      refine lns (v0.mCorrections.length : Int) ?_
      refine avb ?_
      refine loop_lp (fun (p2 : Int) => ⟨[(1, .ptr 1 0 0), (84, .d (D.sl 5 (List.map Gx.Correction.enc v0.mCorrections))), (85, .d (D.i (v0.mCorrections.length : Int))), (86, .d (D.i p2))], [(1, some (.box [.d (D.sl 4 (List.map Gx.Listed.enc v0.mList)), .d (D.sl 2 (List.map Gx.Meaning.enc v0.mDict)), .d (D.i v0.mDesk.mGrid.mRows), .d (D.i v0.mDesk.mGrid.mCols), .d (D.s v0.mDesk.mGrid.mCells), .d (D.s v0.mDesk.mFill), .d (D.sl 2 (List.map Gx.Clue.enc v0.mDesk.mClues)), .d (D.i v0.mDesk.mVersion), .d (D.sl 10 (List.map Gx.Issue.enc v0.mIssues)), .d (D.sl 2 (List.map Gx.Used.enc v0.mUses)), .d (D.sl 5 (List.map Gx.Correction.enc v0.mCorrections)), .d (D.sl 4 (List.map Gx.Entry.enc v0.mEntries)), .d (D.i v0.mNow)]))], 1000⟩) h ?_ ?_
      ·exact weak_by
      intro np2 p2 yp2 h hfp2
      unfold i_IsHouse_L2 at h
      refine avb ?_
      refine brb h ?_ ?_<;>intro _ h
      ·refine idx_sel h (fun x12 hx12 h => ?_)
       refine avb ?_
       refine plb ?_;refine call_sel (E := fun (x : Gx.Issue × Bool) => DV.tup [DV.agg (Gx.Issue.enc x.1), DV.one (D.b x.2)]) h (fun x13 h1 => (i_IssueOf_ok N v0 x12.mIssue h1)) (fun x13 hx13 h => ?_)
       refine avb ?_
       refine brb h ?_ ?_<;>intro _ h
       ·have h := finr hfp2 h
        have h := cutr gt15 h
        cases h;exact eq_by
       ·refine lns (x13.1.mPuzzle.mClues.length : Int) ?_
        refine avb ?_
        refine plb ?_;refine call_sel (E := fun (x : Bool) => DV.one (D.b x)) h (fun x14 h1 => (i_at_ok N x12.mSlot (x13.1.mPuzzle.mClues.length : Int) h1)) (fun x14 hx14 h => ?_)
        refine avb ?_
        refine brb h ?_ ?_<;>intro _ h
        ·have h := finr hfp2 h
         have h := cutr gt15 h
         cases h;exact eq_by
        ·refine brb h ?_ ?_<;>intro _ h
         ·have h := finr hfp2 h
          have h := cutr gt15 h
          cases h;exact eq_by
         ·exact lbk hfp2 h
      ·have h := finr hfp2 h
       refine cut_at (()) (some_in h) ?_
       exact weak_by
     rintro t15 rfl
     have h : _ = some _ := gt15
     refine ab0 ?_
     obtain ⟨zt19, h, gt19⟩ := cutb_some h
     refine W.r_cut (fun (t19 : Unit) => ⟨[], [], 1000⟩) (fun t => .nx t = zt19) ?_ ?_
     ·refine avb ?_
      refine lns (v0.mEntries.length : Int) ?_
      refine avb ?_
      refine loop_lp (fun (p3 : Int) => ⟨[(1, .ptr 1 0 0), (118, .d (D.sl 4 (List.map Gx.Entry.enc v0.mEntries))), (119, .d (D.i (v0.mEntries.length : Int))), (120, .d (D.i p3))], [(1, some (.box [.d (D.sl 4 (List.map Gx.Listed.enc v0.mList)), .d (D.sl 2 (List.map Gx.Meaning.enc v0.mDict)), .d (D.i v0.mDesk.mGrid.mRows), .d (D.i v0.mDesk.mGrid.mCols), .d (D.s v0.mDesk.mGrid.mCells), .d (D.s v0.mDesk.mFill), .d (D.sl 2 (List.map Gx.Clue.enc v0.mDesk.mClues)), .d (D.i v0.mDesk.mVersion), .d (D.sl 10 (List.map Gx.Issue.enc v0.mIssues)), .d (D.sl 2 (List.map Gx.Used.enc v0.mUses)), .d (D.sl 5 (List.map Gx.Correction.enc v0.mCorrections)), .d (D.sl 4 (List.map Gx.Entry.enc v0.mEntries)), .d (D.i v0.mNow)]))], 1000⟩) h ?_ ?_
      ·exact weak_by
      intro np3 p3 yp3 h hfp3
      unfold i_IsHouse_L3 at h
      refine avb ?_
      refine brb h ?_ ?_<;>intro _ h
      ·refine idx_sel h (fun x16 hx16 h => ?_)
       refine avb ?_
       refine plb ?_;refine call_sel (E := fun (x : Gx.Issue × Bool) => DV.tup [DV.agg (Gx.Issue.enc x.1), DV.one (D.b x.2)]) h (fun x17 h1 => (i_IssueOf_ok N v0 x16.mIssue h1)) (fun x17 hx17 h => ?_)
       refine avb ?_
       refine brb h ?_ ?_<;>intro _ h
       ·have h := finr hfp3 h
        have h := cutr gt19 h
        cases h;exact eq_by
       ·refine plb ?_;refine call_sel (E := fun (x : Bool) => DV.one (D.b x)) h (fun x18 h1 => (i_IsEntry_ok N x16 x17.1 h1)) (fun x18 hx18 h => ?_)
        refine avb ?_
        refine brb h ?_ ?_<;>intro _ h
        ·have h := finr hfp3 h
         have h := cutr gt19 h
         cases h;exact eq_by
        ·refine brb h ?_ ?_<;>intro _ h
         ·have h := finr hfp3 h
          have h := cutr gt19 h
          cases h;exact eq_by
         ·exact lbk hfp3 h
      ·have h := finr hfp3 h
       refine cut_at (()) (some_in h) ?_
       exact weak_by
     rintro t19 rfl
     have h : _ = some _ := gt19
     refine avb ?_
     cases h;exact eq_by

theorem i_NewHouse_ok (N : Nat) (v0 : List (Gx.Listed)) (v1 : List (Gx.Meaning)) {r : Gx.House × Bool} (h : i_NewHouse N v0 v1 = some r) : Pure Tryz.prog 17 [DV.one (D.sl 4 (List.map Gx.Listed.enc v0)), DV.one (D.sl 2 (List.map Gx.Meaning.enc v1))] (DV.tup [DV.agg (Gx.House.enc r.1), DV.one (D.b r.2)]) := by
 refine pure_of_walk Tryz.tok Tryz.mixed Tryz.func17 (by kernel_rfl) fun W => ?_
 unfold i_NewHouse at h
 refine avb ?_
 refine plb ?_;refine call_sel (E := fun (x : Gx.House) => DV.agg (Gx.House.enc x)) h (fun x1 h1 => (i_copyHouse_ok N (⟨v0, v1, (⟨(⟨0, 0, ([] : List UInt8)⟩ : Gx.Grid), ([] : List UInt8), [], 0⟩ : Gx.Draft), [], [], [], [], 0⟩ : Gx.House) h1)) (fun x1 hx1 h => ?_)
 refine avb ?_
 refine plb ?_;refine call_sel (E := fun (x : Bool) => DV.one (D.b x)) h (fun x2 h1 => (i_IsHouse_ok N x1 h1)) (fun x2 hx2 h => ?_)
 refine avb ?_
 refine brb h ?_ ?_<;>intro _ h
 ·cases h;exact eq_by
 ·cases h;exact eq_by

theorem i_ExampleHouse_ok (N : Nat) {r : Gx.House × Bool} (h : i_ExampleHouse N = some r) : Pure Tryz.prog 6 [] (DV.tup [DV.agg (Gx.House.enc r.1), DV.one (D.b r.2)]) := by
 refine pure_of_walk Tryz.tok Tryz.mixed Tryz.func6 (by kernel_rfl) fun W => ?_
 unfold i_ExampleHouse at h
 refine ab0 ?_
 refine W.r_seq ?_
 refine ab0 ?_
 refine W.r_seq ?_
 refine ab0 ?_
 refine W.r_seq ?_
 refine ab0 ?_
 obtain ⟨zt3, h, gt3⟩ := bnd_some h
 refine W.r_cut (fun (t3 : (List (Gx.Listed)) × (List (Gx.Meaning))) => ⟨[(0, .ptr 1 0 0), (2, .sl 2), (3, .sl 3)], [(1, some (.box [.d (D.sl 4 (List.map Gx.Listed.enc ([]))), .d (D.sl 2 (List.map Gx.Meaning.enc ([]))), .d (D.i 0), .d (D.i 0), .d (D.s ([] : List UInt8)), .d (D.s ([] : List UInt8)), .d (D.sl 2 (List.map Gx.Clue.enc ([]))), .d (D.i 0), .d (D.sl 10 (List.map Gx.Issue.enc ([]))), .d (D.sl 2 (List.map Gx.Used.enc ([]))), .d (D.sl 5 (List.map Gx.Correction.enc ([]))), .d (D.sl 4 (List.map Gx.Entry.enc ([]))), .d (D.i 0)])), (2, some (.arr 4 (List.map Gx.Listed.enc t3.1) true)), (3, some (.arr 2 (List.map Gx.Meaning.enc t3.2) true))], 1000⟩) (fun t => t = zt3) ?_ ?_
 ·refine avb ?_
  refine plb ?_;refine call_sel (E := fun (x : (List (List UInt8))) => DV.one (D.sl 1 (List.map Gx.encS x))) h (fun x1 h1 => (i_ExampleWords_ok N  h1)) (fun x1 hx1 h => ?_)
  refine avb ?_
  refine lns (x1.length : Int) ?_
  refine avb ?_
  refine loop_lp (fun (p1 : (List (Gx.Listed)) × (List (Gx.Meaning)) × Int) => ⟨[(0, .ptr 1 0 0), (2, .sl 2), (3, .sl 3), (6, .sl 4), (7, .d (D.i (x1.length : Int))), (8, .d (D.i p1.2.2))], [(1, some (.box [.d (D.sl 4 (List.map Gx.Listed.enc ([]))), .d (D.sl 2 (List.map Gx.Meaning.enc ([]))), .d (D.i 0), .d (D.i 0), .d (D.s ([] : List UInt8)), .d (D.s ([] : List UInt8)), .d (D.sl 2 (List.map Gx.Clue.enc ([]))), .d (D.i 0), .d (D.sl 10 (List.map Gx.Issue.enc ([]))), .d (D.sl 2 (List.map Gx.Used.enc ([]))), .d (D.sl 5 (List.map Gx.Correction.enc ([]))), .d (D.sl 4 (List.map Gx.Entry.enc ([]))), .d (D.i 0)])), (2, some (.arr 4 (List.map Gx.Listed.enc p1.1) true)), (3, some (.arr 2 (List.map Gx.Meaning.enc p1.2.1) true)), (4, some (.arr 1 (List.map Gx.encS x1) true))], 1000⟩) h ?_ ?_
  ·exact weak_by
  intro np1 p1 yp1 h hfp1
  unfold i_ExampleHouse_L1 at h
  refine avb ?_
  refine brb h ?_ ?_<;>intro _ h
  ·refine idxp_sel h (fun x2 hx2 h => ?_)
   refine avb ?_
   refine ldp_sel hx2 ?_
   refine avb ?_
   refine app_sel h (app_ok (by (first|rfl|simp [sub])) (by (first|rfl|simp [sub])) (by decide)) (by (intro h; cases h)) (fun h => ?_)
   refine avb ?_
   refine chk_sel h (fun q => q) (fun h => ?_)
   refine avb ?_
   refine app_sel h (app_ok (by (first|rfl|simp [sub])) (by (first|rfl|simp [sub])) (by decide)) (by (intro h; cases h)) (fun h => ?_)
   refine avb ?_
   exact lbk hfp1 h
  ·have h := finr hfp1 h
   refine cut_at ((p1.1, p1.2.1)) (some_in h) ?_
   exact weak_by
 rintro t3 rfl
 have h : _ = some _ := gt3
 refine avb ?_
 refine plb ?_;refine call_sel (E := fun (x : Gx.House × Bool) => DV.tup [DV.agg (Gx.House.enc x.1), DV.one (D.b x.2)]) h (fun x4 h1 => (i_NewHouse_ok N t3.1 t3.2 h1)) (fun x4 hx4 h => ?_)
 refine avb ?_
 cases h;exact eq_by

theorem l_eqListed_ok (N : Nat) (v0 : Gx.Listed) (v1 : Gx.Listed) {r : Bool} (h : l_eqListed N v0 v1 = some r) : Pure Tryz.prog 59 [DV.agg (Gx.Listed.enc v0), DV.agg (Gx.Listed.enc v1)] (DV.one (D.b r)) := by
 refine pure_of_walk Tryz.tok Tryz.mixed Tryz.func59 (by kernel_rfl) fun W => ?_
 unfold l_eqListed at h
 refine avb ?_
 refine brb h ?_ ?_<;>intro _ h
 ·cases h;exact eq_by
 ·refine brb h ?_ ?_<;>intro _ h
  ·cases h;exact eq_by
  ·refine brb h ?_ ?_<;>intro _ h
   ·cases h;exact eq_by
   ·refine brb h ?_ ?_<;>intro _ h
    ·cases h;exact eq_by
    ·cases h;exact eq_by

theorem l_eqListedS_ok (N : Nat) (v0 : List (Gx.Listed)) (v1 : List (Gx.Listed)) {r : Bool} (h : l_eqListedS N v0 v1 = some r) : Pure Tryz.prog 18 [DV.one (D.sl 4 (List.map Gx.Listed.enc v0)), DV.one (D.sl 4 (List.map Gx.Listed.enc v1))] (DV.one (D.b r)) := by
 refine pure_of_walk Tryz.tok Tryz.mixed Tryz.func18 (by kernel_rfl) fun W => ?_
 unfold l_eqListedS at h
 refine avb ?_
 refine lns (v0.length : Int) ?_
 refine avb ?_
 refine lns (v1.length : Int) ?_
 refine avb ?_
 refine br_sel h (fun _ h => ?_) (fun _ h => ?_)
 ·refine avb ?_
  cases h;exact eq_by
 ·refine ab0 ?_
  obtain ⟨zt4, h, gt4⟩ := cutb_some h
  refine W.r_cut (fun (t4 : Unit) => ⟨[], [], 1000⟩) (fun t => .nx t = zt4) ?_ ?_
  ·refine avb ?_
   refine loop_lp (fun (p1 : Int) => ⟨[(0, .d (D.sl 4 (List.map Gx.Listed.enc v0))), (1, .d (D.sl 4 (List.map Gx.Listed.enc v1))), (5, .d (D.i p1))], [], 1000⟩) h ?_ ?_
   ·exact weak_by
   intro np1 p1 yp1 h hfp1
   unfold l_eqListedS_L1 at h
   refine avb ?_
   refine lns (v0.length : Int) ?_
   refine avb ?_
   refine brb h ?_ ?_<;>intro _ h
   ·refine idx_sel h (fun x1 hx1 h => ?_)
    refine avb ?_
    refine idx_sel h (fun x2 hx2 h => ?_)
    refine avb ?_
    refine plb ?_;refine call_sel (E := fun (x : Bool) => DV.one (D.b x)) h (fun x3 h1 => (l_eqListed_ok N x1 x2 h1)) (fun x3 hx3 h => ?_)
    refine avb ?_
    refine brb h ?_ ?_<;>intro _ h
    ·have h := finr hfp1 h
     have h := cutr gt4 h
     cases h;exact eq_by
    ·exact lbk hfp1 h
   ·have h := finr hfp1 h
    refine cut_at (()) (some_in h) ?_
    exact weak_by
  rintro t4 rfl
  have h : _ = some _ := gt4
  refine avb ?_
  cases h;exact eq_by

theorem l_eqMeaning_ok (N : Nat) (v0 : Gx.Meaning) (v1 : Gx.Meaning) {r : Bool} (h : l_eqMeaning N v0 v1 = some r) : Pure Tryz.prog 60 [DV.agg (Gx.Meaning.enc v0), DV.agg (Gx.Meaning.enc v1)] (DV.one (D.b r)) := by
 refine pure_of_walk Tryz.tok Tryz.mixed Tryz.func60 (by kernel_rfl) fun W => ?_
 unfold l_eqMeaning at h
 refine avb ?_
 refine brb h ?_ ?_<;>intro _ h
 ·cases h;exact eq_by
 ·refine brb h ?_ ?_<;>intro _ h
  ·cases h;exact eq_by
  ·cases h;exact eq_by

theorem l_eqMeaningS_ok (N : Nat) (v0 : List (Gx.Meaning)) (v1 : List (Gx.Meaning)) {r : Bool} (h : l_eqMeaningS N v0 v1 = some r) : Pure Tryz.prog 19 [DV.one (D.sl 2 (List.map Gx.Meaning.enc v0)), DV.one (D.sl 2 (List.map Gx.Meaning.enc v1))] (DV.one (D.b r)) := by
 refine pure_of_walk Tryz.tok Tryz.mixed Tryz.func19 (by kernel_rfl) fun W => ?_
 unfold l_eqMeaningS at h
 refine avb ?_
 refine lns (v0.length : Int) ?_
 refine avb ?_
 refine lns (v1.length : Int) ?_
 refine avb ?_
 refine br_sel h (fun _ h => ?_) (fun _ h => ?_)
 ·refine avb ?_
  cases h;exact eq_by
 ·refine ab0 ?_
  obtain ⟨zt4, h, gt4⟩ := cutb_some h
  refine W.r_cut (fun (t4 : Unit) => ⟨[], [], 1000⟩) (fun t => .nx t = zt4) ?_ ?_
  ·refine avb ?_
   refine loop_lp (fun (p1 : Int) => ⟨[(0, .d (D.sl 2 (List.map Gx.Meaning.enc v0))), (1, .d (D.sl 2 (List.map Gx.Meaning.enc v1))), (5, .d (D.i p1))], [], 1000⟩) h ?_ ?_
   ·exact weak_by
   intro np1 p1 yp1 h hfp1
   unfold l_eqMeaningS_L1 at h
   refine avb ?_
   refine lns (v0.length : Int) ?_
   refine avb ?_
   refine brb h ?_ ?_<;>intro _ h
   ·refine idx_sel h (fun x1 hx1 h => ?_)
    refine avb ?_
    refine idx_sel h (fun x2 hx2 h => ?_)
    refine avb ?_
    refine plb ?_;refine call_sel (E := fun (x : Bool) => DV.one (D.b x)) h (fun x3 h1 => (l_eqMeaning_ok N x1 x2 h1)) (fun x3 hx3 h => ?_)
    refine avb ?_
    refine brb h ?_ ?_<;>intro _ h
    ·have h := finr hfp1 h
     have h := cutr gt4 h
     cases h;exact eq_by
    ·exact lbk hfp1 h
   ·have h := finr hfp1 h
    refine cut_at (()) (some_in h) ?_
    exact weak_by
  rintro t4 rfl
  have h : _ = some _ := gt4
  refine avb ?_
  cases h;exact eq_by

theorem l_eqGrid_ok (N : Nat) (v0 : Gx.Grid) (v1 : Gx.Grid) {r : Bool} (h : l_eqGrid N v0 v1 = some r) : Pure Tryz.prog 61 [DV.agg (Gx.Grid.enc v0), DV.agg (Gx.Grid.enc v1)] (DV.one (D.b r)) := by
 refine pure_of_walk Tryz.tok Tryz.mixed Tryz.func61 (by kernel_rfl) fun W => ?_
 unfold l_eqGrid at h
 refine avb ?_
 refine brb h ?_ ?_<;>intro _ h
 ·cases h;exact eq_by
 ·refine brb h ?_ ?_<;>intro _ h
  ·cases h;exact eq_by
  ·refine brb h ?_ ?_<;>intro _ h
   ·cases h;exact eq_by
   ·cases h;exact eq_by

theorem l_eqStep_ok (N : Nat) (v0 : Gx.Step) (v1 : Gx.Step) {r : Bool} (h : l_eqStep N v0 v1 = some r) : Pure Tryz.prog 194 [DV.agg (Gx.Step.enc v0), DV.agg (Gx.Step.enc v1)] (DV.one (D.b r)) := by
 refine pure_of_walk Tryz.tok Tryz.mixed Tryz.func194 (by kernel_rfl) fun W => ?_
 unfold l_eqStep at h
 refine avb ?_
 refine brb h ?_ ?_<;>intro _ h
 ·cases h;exact eq_by
 ·refine brb h ?_ ?_<;>intro _ h
  ·cases h;exact eq_by
  ·refine brb h ?_ ?_<;>intro _ h
   ·cases h;exact eq_by
   ·refine brb h ?_ ?_<;>intro _ h
    ·cases h;exact eq_by
    ·cases h;exact eq_by

theorem l_eqStepS_ok (N : Nat) (v0 : List (Gx.Step)) (v1 : List (Gx.Step)) {r : Bool} (h : l_eqStepS N v0 v1 = some r) : Pure Tryz.prog 164 [DV.one (D.sl 4 (List.map Gx.Step.enc v0)), DV.one (D.sl 4 (List.map Gx.Step.enc v1))] (DV.one (D.b r)) := by
 refine pure_of_walk Tryz.tok Tryz.mixed Tryz.func164 (by kernel_rfl) fun W => ?_
 unfold l_eqStepS at h
 refine avb ?_
 refine lns (v0.length : Int) ?_
 refine avb ?_
 refine lns (v1.length : Int) ?_
 refine avb ?_
 refine br_sel h (fun _ h => ?_) (fun _ h => ?_)
 ·refine avb ?_
  cases h;exact eq_by
 ·refine ab0 ?_
  obtain ⟨zt4, h, gt4⟩ := cutb_some h
  refine W.r_cut (fun (t4 : Unit) => ⟨[], [], 1000⟩) (fun t => .nx t = zt4) ?_ ?_
  ·refine avb ?_
   refine loop_lp (fun (p1 : Int) => ⟨[(0, .d (D.sl 4 (List.map Gx.Step.enc v0))), (1, .d (D.sl 4 (List.map Gx.Step.enc v1))), (5, .d (D.i p1))], [], 1000⟩) h ?_ ?_
   ·exact weak_by
   intro np1 p1 yp1 h hfp1
   unfold l_eqStepS_L1 at h
   refine avb ?_
   refine lns (v0.length : Int) ?_
   refine avb ?_
   refine brb h ?_ ?_<;>intro _ h
   ·refine idx_sel h (fun x1 hx1 h => ?_)
    refine avb ?_
    refine idx_sel h (fun x2 hx2 h => ?_)
    refine avb ?_
    refine plb ?_;refine call_sel (E := fun (x : Bool) => DV.one (D.b x)) h (fun x3 h1 => (l_eqStep_ok N x1 x2 h1)) (fun x3 hx3 h => ?_)
    refine avb ?_
    refine brb h ?_ ?_<;>intro _ h
    ·have h := finr hfp1 h
     have h := cutr gt4 h
     cases h;exact eq_by
    ·exact lbk hfp1 h
   ·have h := finr hfp1 h
    refine cut_at (()) (some_in h) ?_
    exact weak_by
  rintro t4 rfl
  have h : _ = some _ := gt4
  refine avb ?_
  cases h;exact eq_by

theorem l_eqClue_ok (N : Nat) (v0 : Gx.Clue) (v1 : Gx.Clue) {r : Bool} (h : l_eqClue N v0 v1 = some r) : Pure Tryz.prog 124 [DV.agg (Gx.Clue.enc v0), DV.agg (Gx.Clue.enc v1)] (DV.one (D.b r)) := by
 refine pure_of_walk Tryz.tok Tryz.mixed Tryz.func124 (by kernel_rfl) fun W => ?_
 unfold l_eqClue at h
 refine avb ?_
 refine brb h ?_ ?_<;>intro _ h
 ·cases h;exact eq_by
 ·refine plb ?_;refine call_sel (E := fun (x : Bool) => DV.one (D.b x)) h (fun x1 h1 => (l_eqStepS_ok N v0.mPlay v1.mPlay h1)) (fun x1 hx1 h => ?_)
  refine avb ?_
  refine brb h ?_ ?_<;>intro _ h
  ·cases h;exact eq_by
  ·cases h;exact eq_by

theorem l_eqClueS_ok (N : Nat) (v0 : List (Gx.Clue)) (v1 : List (Gx.Clue)) {r : Bool} (h : l_eqClueS N v0 v1 = some r) : Pure Tryz.prog 62 [DV.one (D.sl 2 (List.map Gx.Clue.enc v0)), DV.one (D.sl 2 (List.map Gx.Clue.enc v1))] (DV.one (D.b r)) := by
 refine pure_of_walk Tryz.tok Tryz.mixed Tryz.func62 (by kernel_rfl) fun W => ?_
 unfold l_eqClueS at h
 refine avb ?_
 refine lns (v0.length : Int) ?_
 refine avb ?_
 refine lns (v1.length : Int) ?_
 refine avb ?_
 refine br_sel h (fun _ h => ?_) (fun _ h => ?_)
 ·refine avb ?_
  cases h;exact eq_by
 ·refine ab0 ?_
  obtain ⟨zt4, h, gt4⟩ := cutb_some h
  refine W.r_cut (fun (t4 : Unit) => ⟨[], [], 1000⟩) (fun t => .nx t = zt4) ?_ ?_
  ·refine avb ?_
   refine loop_lp (fun (p1 : Int) => ⟨[(0, .d (D.sl 2 (List.map Gx.Clue.enc v0))), (1, .d (D.sl 2 (List.map Gx.Clue.enc v1))), (5, .d (D.i p1))], [], 1000⟩) h ?_ ?_
   ·exact weak_by
   intro np1 p1 yp1 h hfp1
   unfold l_eqClueS_L1 at h
   refine avb ?_
   refine lns (v0.length : Int) ?_
   refine avb ?_
   refine brb h ?_ ?_<;>intro _ h
   ·refine idx_sel h (fun x1 hx1 h => ?_)
    refine avb ?_
    refine idx_sel h (fun x2 hx2 h => ?_)
    refine avb ?_
    refine plb ?_;refine call_sel (E := fun (x : Bool) => DV.one (D.b x)) h (fun x3 h1 => (l_eqClue_ok N x1 x2 h1)) (fun x3 hx3 h => ?_)
    refine avb ?_
    refine brb h ?_ ?_<;>intro _ h
    ·have h := finr hfp1 h
     have h := cutr gt4 h
     cases h;exact eq_by
    ·exact lbk hfp1 h
   ·have h := finr hfp1 h
    refine cut_at (()) (some_in h) ?_
    exact weak_by
  rintro t4 rfl
  have h : _ = some _ := gt4
  refine avb ?_
  cases h;exact eq_by

theorem l_eqDraft_ok (N : Nat) (v0 : Gx.Draft) (v1 : Gx.Draft) {r : Bool} (h : l_eqDraft N v0 v1 = some r) : Pure Tryz.prog 20 [DV.agg (Gx.Draft.enc v0), DV.agg (Gx.Draft.enc v1)] (DV.one (D.b r)) := by
 refine pure_of_walk Tryz.tok Tryz.mixed Tryz.func20 (by kernel_rfl) fun W => ?_
 unfold l_eqDraft at h
 refine avb ?_
 refine plb ?_;refine call_sel (E := fun (x : Bool) => DV.one (D.b x)) h (fun x1 h1 => (l_eqGrid_ok N v0.mGrid v1.mGrid h1)) (fun x1 hx1 h => ?_)
 refine avb ?_
 refine brb h ?_ ?_<;>intro _ h
 ·cases h;exact eq_by
 ·refine brb h ?_ ?_<;>intro _ h
  ·cases h;exact eq_by
  ·refine plb ?_;refine call_sel (E := fun (x : Bool) => DV.one (D.b x)) h (fun x2 h1 => (l_eqClueS_ok N v0.mClues v1.mClues h1)) (fun x2 hx2 h => ?_)
   refine avb ?_
   refine brb h ?_ ?_<;>intro _ h
   ·cases h;exact eq_by
   ·refine brb h ?_ ?_<;>intro _ h
    ·cases h;exact eq_by
    ·cases h;exact eq_by

theorem l_eqIntS_ok (N : Nat) (v0 : List (Int)) (v1 : List (Int)) {r : Bool} (h : l_eqIntS N v0 v1 = some r) : Pure Tryz.prog 165 [DV.one (D.sl 1 (List.map Gx.encI v0)), DV.one (D.sl 1 (List.map Gx.encI v1))] (DV.one (D.b r)) := by
 refine pure_of_walk Tryz.tok Tryz.mixed Tryz.func165 (by kernel_rfl) fun W => ?_
 unfold l_eqIntS at h
 refine avb ?_
 refine lns (v0.length : Int) ?_
 refine avb ?_
 refine lns (v1.length : Int) ?_
 refine avb ?_
 refine br_sel h (fun _ h => ?_) (fun _ h => ?_)
 ·refine avb ?_
  cases h;exact eq_by
 ·refine ab0 ?_
  obtain ⟨zt3, h, gt3⟩ := cutb_some h
  refine W.r_cut (fun (t3 : Unit) => ⟨[], [], 1000⟩) (fun t => .nx t = zt3) ?_ ?_
  ·refine avb ?_
   refine loop_lp (fun (p1 : Int) => ⟨[(0, .d (D.sl 1 (List.map Gx.encI v0))), (1, .d (D.sl 1 (List.map Gx.encI v1))), (5, .d (D.i p1))], [], 1000⟩) h ?_ ?_
   ·exact weak_by
   intro np1 p1 yp1 h hfp1
   unfold l_eqIntS_L1 at h
   refine avb ?_
   refine lns (v0.length : Int) ?_
   refine avb ?_
   refine brb h ?_ ?_<;>intro _ h
   ·refine idx_sel h (fun x1 hx1 h => ?_)
    refine avb ?_
    refine idx_sel h (fun x2 hx2 h => ?_)
    refine avb ?_
    refine brb h ?_ ?_<;>intro _ h
    ·have h := finr hfp1 h
     have h := cutr gt3 h
     cases h;exact eq_by
    ·exact lbk hfp1 h
   ·have h := finr hfp1 h
    refine cut_at (()) (some_in h) ?_
    exact weak_by
  rintro t3 rfl
  have h : _ = some _ := gt3
  refine avb ?_
  cases h;exact eq_by

theorem l_eqPuzzle_ok (N : Nat) (v0 : Gx.Puzzle) (v1 : Gx.Puzzle) {r : Bool} (h : l_eqPuzzle N v0 v1 = some r) : Pure Tryz.prog 125 [DV.agg (Gx.Puzzle.enc v0), DV.agg (Gx.Puzzle.enc v1)] (DV.one (D.b r)) := by
 refine pure_of_walk Tryz.tok Tryz.mixed Tryz.func125 (by kernel_rfl) fun W => ?_
 unfold l_eqPuzzle at h
 refine avb ?_
 refine plb ?_;refine call_sel (E := fun (x : Bool) => DV.one (D.b x)) h (fun x1 h1 => (l_eqGrid_ok N v0.mGrid v1.mGrid h1)) (fun x1 hx1 h => ?_)
 refine avb ?_
 refine brb h ?_ ?_<;>intro _ h
 ·cases h;exact eq_by
 ·refine plb ?_;refine call_sel (E := fun (x : Bool) => DV.one (D.b x)) h (fun x2 h1 => (l_eqClueS_ok N v0.mClues v1.mClues h1)) (fun x2 hx2 h => ?_)
  refine avb ?_
  refine brb h ?_ ?_<;>intro _ h
  ·cases h;exact eq_by
  ·refine plb ?_;refine call_sel (E := fun (x : Bool) => DV.one (D.b x)) h (fun x3 h1 => (l_eqIntS_ok N v0.mSeals v1.mSeals h1)) (fun x3 hx3 h => ?_)
   refine avb ?_
   refine brb h ?_ ?_<;>intro _ h
   ·cases h;exact eq_by
   ·refine brb h ?_ ?_<;>intro _ h
    ·cases h;exact eq_by
    ·cases h;exact eq_by

theorem l_eqIssue_ok (N : Nat) (v0 : Gx.Issue) (v1 : Gx.Issue) {r : Bool} (h : l_eqIssue N v0 v1 = some r) : Pure Tryz.prog 63 [DV.agg (Gx.Issue.enc v0), DV.agg (Gx.Issue.enc v1)] (DV.one (D.b r)) := by
 refine pure_of_walk Tryz.tok Tryz.mixed Tryz.func63 (by kernel_rfl) fun W => ?_
 unfold l_eqIssue at h
 refine avb ?_
 refine brb h ?_ ?_<;>intro _ h
 ·cases h;exact eq_by
 ·refine plb ?_;refine call_sel (E := fun (x : Bool) => DV.one (D.b x)) h (fun x1 h1 => (l_eqPuzzle_ok N v0.mPuzzle v1.mPuzzle h1)) (fun x1 hx1 h => ?_)
  refine avb ?_
  refine brb h ?_ ?_<;>intro _ h
  ·cases h;exact eq_by
  ·refine brb h ?_ ?_<;>intro _ h
   ·cases h;exact eq_by
   ·refine brb h ?_ ?_<;>intro _ h
    ·cases h;exact eq_by
    ·refine brb h ?_ ?_<;>intro _ h
     ·cases h;exact eq_by
     ·cases h;exact eq_by

theorem l_eqIssueS_ok (N : Nat) (v0 : List (Gx.Issue)) (v1 : List (Gx.Issue)) {r : Bool} (h : l_eqIssueS N v0 v1 = some r) : Pure Tryz.prog 21 [DV.one (D.sl 10 (List.map Gx.Issue.enc v0)), DV.one (D.sl 10 (List.map Gx.Issue.enc v1))] (DV.one (D.b r)) := by
 refine pure_of_walk Tryz.tok Tryz.mixed Tryz.func21 (by kernel_rfl) fun W => ?_
 unfold l_eqIssueS at h
 refine avb ?_
 refine lns (v0.length : Int) ?_
 refine avb ?_
 refine lns (v1.length : Int) ?_
 refine avb ?_
 refine br_sel h (fun _ h => ?_) (fun _ h => ?_)
 ·refine avb ?_
  cases h;exact eq_by
 ·refine ab0 ?_
  obtain ⟨zt4, h, gt4⟩ := cutb_some h
  refine W.r_cut (fun (t4 : Unit) => ⟨[], [], 1000⟩) (fun t => .nx t = zt4) ?_ ?_
  ·refine avb ?_
   refine loop_lp (fun (p1 : Int) => ⟨[(0, .d (D.sl 10 (List.map Gx.Issue.enc v0))), (1, .d (D.sl 10 (List.map Gx.Issue.enc v1))), (5, .d (D.i p1))], [], 1000⟩) h ?_ ?_
   ·exact weak_by
   intro np1 p1 yp1 h hfp1
   unfold l_eqIssueS_L1 at h
   refine avb ?_
   refine lns (v0.length : Int) ?_
   refine avb ?_
   refine brb h ?_ ?_<;>intro _ h
   ·refine idx_sel h (fun x1 hx1 h => ?_)
    refine avb ?_
    refine idx_sel h (fun x2 hx2 h => ?_)
    refine avb ?_
    refine plb ?_;refine call_sel (E := fun (x : Bool) => DV.one (D.b x)) h (fun x3 h1 => (l_eqIssue_ok N x1 x2 h1)) (fun x3 hx3 h => ?_)
    refine avb ?_
    refine brb h ?_ ?_<;>intro _ h
    ·have h := finr hfp1 h
     have h := cutr gt4 h
     cases h;exact eq_by
    ·exact lbk hfp1 h
   ·have h := finr hfp1 h
    refine cut_at (()) (some_in h) ?_
    exact weak_by
  rintro t4 rfl
  have h : _ = some _ := gt4
  refine avb ?_
  cases h;exact eq_by

theorem l_eqUsed_ok (N : Nat) (v0 : Gx.Used) (v1 : Gx.Used) {r : Bool} (h : l_eqUsed N v0 v1 = some r) : Pure Tryz.prog 64 [DV.agg (Gx.Used.enc v0), DV.agg (Gx.Used.enc v1)] (DV.one (D.b r)) := by
 refine pure_of_walk Tryz.tok Tryz.mixed Tryz.func64 (by kernel_rfl) fun W => ?_
 unfold l_eqUsed at h
 refine avb ?_
 refine brb h ?_ ?_<;>intro _ h
 ·cases h;exact eq_by
 ·refine brb h ?_ ?_<;>intro _ h
  ·cases h;exact eq_by
  ·cases h;exact eq_by

theorem l_eqUsedS_ok (N : Nat) (v0 : List (Gx.Used)) (v1 : List (Gx.Used)) {r : Bool} (h : l_eqUsedS N v0 v1 = some r) : Pure Tryz.prog 22 [DV.one (D.sl 2 (List.map Gx.Used.enc v0)), DV.one (D.sl 2 (List.map Gx.Used.enc v1))] (DV.one (D.b r)) := by
 refine pure_of_walk Tryz.tok Tryz.mixed Tryz.func22 (by kernel_rfl) fun W => ?_
 unfold l_eqUsedS at h
 refine avb ?_
 refine lns (v0.length : Int) ?_
 refine avb ?_
 refine lns (v1.length : Int) ?_
 refine avb ?_
 refine br_sel h (fun _ h => ?_) (fun _ h => ?_)
 ·refine avb ?_
  cases h;exact eq_by
 ·refine ab0 ?_
  obtain ⟨zt4, h, gt4⟩ := cutb_some h
  refine W.r_cut (fun (t4 : Unit) => ⟨[], [], 1000⟩) (fun t => .nx t = zt4) ?_ ?_
  ·refine avb ?_
   refine loop_lp (fun (p1 : Int) => ⟨[(0, .d (D.sl 2 (List.map Gx.Used.enc v0))), (1, .d (D.sl 2 (List.map Gx.Used.enc v1))), (5, .d (D.i p1))], [], 1000⟩) h ?_ ?_
   ·exact weak_by
   intro np1 p1 yp1 h hfp1
   unfold l_eqUsedS_L1 at h
   refine avb ?_
   refine lns (v0.length : Int) ?_
   refine avb ?_
   refine brb h ?_ ?_<;>intro _ h
   ·refine idx_sel h (fun x1 hx1 h => ?_)
    refine avb ?_
    refine idx_sel h (fun x2 hx2 h => ?_)
    refine avb ?_
    refine plb ?_;refine call_sel (E := fun (x : Bool) => DV.one (D.b x)) h (fun x3 h1 => (l_eqUsed_ok N x1 x2 h1)) (fun x3 hx3 h => ?_)
    refine avb ?_
    refine brb h ?_ ?_<;>intro _ h
    ·have h := finr hfp1 h
     have h := cutr gt4 h
     cases h;exact eq_by
    ·exact lbk hfp1 h
   ·have h := finr hfp1 h
    refine cut_at (()) (some_in h) ?_
    exact weak_by
  rintro t4 rfl
  have h : _ = some _ := gt4
  refine avb ?_
  cases h;exact eq_by

theorem l_eqCorrection_ok (N : Nat) (v0 : Gx.Correction) (v1 : Gx.Correction) {r : Bool} (h : l_eqCorrection N v0 v1 = some r) : Pure Tryz.prog 65 [DV.agg (Gx.Correction.enc v0), DV.agg (Gx.Correction.enc v1)] (DV.one (D.b r)) := by
 refine pure_of_walk Tryz.tok Tryz.mixed Tryz.func65 (by kernel_rfl) fun W => ?_
 unfold l_eqCorrection at h
 refine avb ?_
 refine brb h ?_ ?_<;>intro _ h
 ·cases h;exact eq_by
 ·refine brb h ?_ ?_<;>intro _ h
  ·cases h;exact eq_by
  ·refine plb ?_;refine call_sel (E := fun (x : Bool) => DV.one (D.b x)) h (fun x1 h1 => (l_eqClue_ok N v0.mClue v1.mClue h1)) (fun x1 hx1 h => ?_)
   refine avb ?_
   refine brb h ?_ ?_<;>intro _ h
   ·cases h;exact eq_by
   ·refine brb h ?_ ?_<;>intro _ h
    ·cases h;exact eq_by
    ·cases h;exact eq_by

theorem l_eqCorrectionS_ok (N : Nat) (v0 : List (Gx.Correction)) (v1 : List (Gx.Correction)) {r : Bool} (h : l_eqCorrectionS N v0 v1 = some r) : Pure Tryz.prog 23 [DV.one (D.sl 5 (List.map Gx.Correction.enc v0)), DV.one (D.sl 5 (List.map Gx.Correction.enc v1))] (DV.one (D.b r)) := by
 refine pure_of_walk Tryz.tok Tryz.mixed Tryz.func23 (by kernel_rfl) fun W => ?_
 unfold l_eqCorrectionS at h
 refine avb ?_
 refine lns (v0.length : Int) ?_
 refine avb ?_
 refine lns (v1.length : Int) ?_
 refine avb ?_
 refine br_sel h (fun _ h => ?_) (fun _ h => ?_)
 ·refine avb ?_
  cases h;exact eq_by
 ·refine ab0 ?_
  obtain ⟨zt4, h, gt4⟩ := cutb_some h
  refine W.r_cut (fun (t4 : Unit) => ⟨[], [], 1000⟩) (fun t => .nx t = zt4) ?_ ?_
  ·refine avb ?_
   refine loop_lp (fun (p1 : Int) => ⟨[(0, .d (D.sl 5 (List.map Gx.Correction.enc v0))), (1, .d (D.sl 5 (List.map Gx.Correction.enc v1))), (5, .d (D.i p1))], [], 1000⟩) h ?_ ?_
   ·exact weak_by
   intro np1 p1 yp1 h hfp1
   unfold l_eqCorrectionS_L1 at h
   refine avb ?_
   refine lns (v0.length : Int) ?_
   refine avb ?_
   refine brb h ?_ ?_<;>intro _ h
   ·refine idx_sel h (fun x1 hx1 h => ?_)
    refine avb ?_
    refine idx_sel h (fun x2 hx2 h => ?_)
    refine avb ?_
    refine plb ?_;refine call_sel (E := fun (x : Bool) => DV.one (D.b x)) h (fun x3 h1 => (l_eqCorrection_ok N x1 x2 h1)) (fun x3 hx3 h => ?_)
    refine avb ?_
    refine brb h ?_ ?_<;>intro _ h
    ·have h := finr hfp1 h
     have h := cutr gt4 h
     cases h;exact eq_by
    ·exact lbk hfp1 h
   ·have h := finr hfp1 h
    refine cut_at (()) (some_in h) ?_
    exact weak_by
  rintro t4 rfl
  have h : _ = some _ := gt4
  refine avb ?_
  cases h;exact eq_by

theorem l_eqEntry_ok (N : Nat) (v0 : Gx.Entry) (v1 : Gx.Entry) {r : Bool} (h : l_eqEntry N v0 v1 = some r) : Pure Tryz.prog 66 [DV.agg (Gx.Entry.enc v0), DV.agg (Gx.Entry.enc v1)] (DV.one (D.b r)) := by
 refine pure_of_walk Tryz.tok Tryz.mixed Tryz.func66 (by kernel_rfl) fun W => ?_
 unfold l_eqEntry at h
 refine avb ?_
 refine brb h ?_ ?_<;>intro _ h
 ·cases h;exact eq_by
 ·refine brb h ?_ ?_<;>intro _ h
  ·cases h;exact eq_by
  ·refine brb h ?_ ?_<;>intro _ h
   ·cases h;exact eq_by
   ·refine brb h ?_ ?_<;>intro _ h
    ·cases h;exact eq_by
    ·cases h;exact eq_by

theorem l_eqEntryS_ok (N : Nat) (v0 : List (Gx.Entry)) (v1 : List (Gx.Entry)) {r : Bool} (h : l_eqEntryS N v0 v1 = some r) : Pure Tryz.prog 24 [DV.one (D.sl 4 (List.map Gx.Entry.enc v0)), DV.one (D.sl 4 (List.map Gx.Entry.enc v1))] (DV.one (D.b r)) := by
 refine pure_of_walk Tryz.tok Tryz.mixed Tryz.func24 (by kernel_rfl) fun W => ?_
 unfold l_eqEntryS at h
 refine avb ?_
 refine lns (v0.length : Int) ?_
 refine avb ?_
 refine lns (v1.length : Int) ?_
 refine avb ?_
 refine br_sel h (fun _ h => ?_) (fun _ h => ?_)
 ·refine avb ?_
  cases h;exact eq_by
 ·refine ab0 ?_
  obtain ⟨zt4, h, gt4⟩ := cutb_some h
  refine W.r_cut (fun (t4 : Unit) => ⟨[], [], 1000⟩) (fun t => .nx t = zt4) ?_ ?_
  ·refine avb ?_
   refine loop_lp (fun (p1 : Int) => ⟨[(0, .d (D.sl 4 (List.map Gx.Entry.enc v0))), (1, .d (D.sl 4 (List.map Gx.Entry.enc v1))), (5, .d (D.i p1))], [], 1000⟩) h ?_ ?_
   ·exact weak_by
   intro np1 p1 yp1 h hfp1
   unfold l_eqEntryS_L1 at h
   refine avb ?_
   refine lns (v0.length : Int) ?_
   refine avb ?_
   refine brb h ?_ ?_<;>intro _ h
   ·refine idx_sel h (fun x1 hx1 h => ?_)
    refine avb ?_
    refine idx_sel h (fun x2 hx2 h => ?_)
    refine avb ?_
    refine plb ?_;refine call_sel (E := fun (x : Bool) => DV.one (D.b x)) h (fun x3 h1 => (l_eqEntry_ok N x1 x2 h1)) (fun x3 hx3 h => ?_)
    refine avb ?_
    refine brb h ?_ ?_<;>intro _ h
    ·have h := finr hfp1 h
     have h := cutr gt4 h
     cases h;exact eq_by
    ·exact lbk hfp1 h
   ·have h := finr hfp1 h
    refine cut_at (()) (some_in h) ?_
    exact weak_by
  rintro t4 rfl
  have h : _ = some _ := gt4
  refine avb ?_
  cases h;exact eq_by

theorem l_eqHouse_ok (N : Nat) (v0 : Gx.House) (v1 : Gx.House) {r : Bool} (h : l_eqHouse N v0 v1 = some r) : Pure Tryz.prog 7 [DV.agg (Gx.House.enc v0), DV.agg (Gx.House.enc v1)] (DV.one (D.b r)) := by
 refine pure_of_walk Tryz.tok Tryz.mixed Tryz.func7 (by kernel_rfl) fun W => ?_
 unfold l_eqHouse at h
 refine avb ?_
 refine plb ?_;refine call_sel (E := fun (x : Bool) => DV.one (D.b x)) h (fun x1 h1 => (l_eqListedS_ok N v0.mList v1.mList h1)) (fun x1 hx1 h => ?_)
 refine avb ?_
 refine brb h ?_ ?_<;>intro _ h
 ·cases h;exact eq_by
 ·refine plb ?_;refine call_sel (E := fun (x : Bool) => DV.one (D.b x)) h (fun x2 h1 => (l_eqMeaningS_ok N v0.mDict v1.mDict h1)) (fun x2 hx2 h => ?_)
  refine avb ?_
  refine brb h ?_ ?_<;>intro _ h
  ·cases h;exact eq_by
  ·refine plb ?_;refine call_sel (E := fun (x : Bool) => DV.one (D.b x)) h (fun x3 h1 => (l_eqDraft_ok N v0.mDesk v1.mDesk h1)) (fun x3 hx3 h => ?_)
   refine avb ?_
   refine brb h ?_ ?_<;>intro _ h
   ·cases h;exact eq_by
   ·refine plb ?_;refine call_sel (E := fun (x : Bool) => DV.one (D.b x)) h (fun x4 h1 => (l_eqIssueS_ok N v0.mIssues v1.mIssues h1)) (fun x4 hx4 h => ?_)
    refine avb ?_
    refine brb h ?_ ?_<;>intro _ h
    ·cases h;exact eq_by
    ·refine plb ?_;refine call_sel (E := fun (x : Bool) => DV.one (D.b x)) h (fun x5 h1 => (l_eqUsedS_ok N v0.mUses v1.mUses h1)) (fun x5 hx5 h => ?_)
     refine avb ?_
     refine brb h ?_ ?_<;>intro _ h
     ·cases h;exact eq_by
     ·refine plb ?_;refine call_sel (E := fun (x : Bool) => DV.one (D.b x)) h (fun x6 h1 => (l_eqCorrectionS_ok N v0.mCorrections v1.mCorrections h1)) (fun x6 hx6 h => ?_)
      refine avb ?_
      refine brb h ?_ ?_<;>intro _ h
      ·cases h;exact eq_by
      ·refine plb ?_;refine call_sel (E := fun (x : Bool) => DV.one (D.b x)) h (fun x7 h1 => (l_eqEntryS_ok N v0.mEntries v1.mEntries h1)) (fun x7 hx7 h => ?_)
       refine avb ?_
       refine brb h ?_ ?_<;>intro _ h
       ·cases h;exact eq_by
       ·refine brb h ?_ ?_<;>intro _ h
        ·cases h;exact eq_by
        ·cases h;exact eq_by

theorem l_markText_ok (N : Nat) (v0 : Int) {r : (List UInt8)} (h : l_markText N v0 = some r) : Pure Tryz.prog 67 [DV.one (D.i v0)] (DV.one (D.s r)) := by
 refine pure_of_walk Tryz.tok Tryz.mixed Tryz.func67 (by kernel_rfl) fun W => ?_
 unfold l_markText at h
 refine avb ?_
 refine br_sel h (fun _ h => ?_) (fun _ h => ?_)
 ·refine avb ?_
  cases h;exact eq_by
 ·refine ab0 ?_
  refine W.r_seq ?_
  refine ab0 ?_
  obtain ⟨zt1, h, gt1⟩ := bnd_some h
  refine W.r_cut (fun (t1 : (List UInt8)) => ⟨[(3, .d (D.s t1))], [], 1000⟩) (fun t => t = zt1) ?_ ?_
  ·refine avb ?_
   refine loop_lp (fun (p1 : Int × (List UInt8)) => ⟨[(0, .d (D.i p1.1)), (3, .d (D.s p1.2))], [], 1000⟩) h ?_ ?_
   ·exact weak_by
   intro np1 p1 yp1 h hfp1
   unfold l_markText_L1 at h
   refine avb ?_
   refine brb h ?_ ?_<;>intro _ h
   ·refine chk_sel h (fun q => q) (fun h => ?_)
    refine avb ?_
    refine ⟨[UInt8.ofInt (IntKind.u8.wrap (w64 (48 + (Int.tmod p1.1 10))))], (by (exact eq_by)), ?_⟩
    refine avb ?_
    refine chk_sel h (fun q => Nat.le_trans q (by decide)) (fun h => ?_)
    refine avb ?_
    refine chk_sel h (fun q => q) (fun h => ?_)
    refine avb ?_
    exact lbk hfp1 h
   ·have h := finr hfp1 h
    refine cut_at (p1.2) (some_in h) ?_
    exact weak_by
  rintro t1 rfl
  have h : _ = some _ := gt1
  refine avb ?_
  refine chk_sel h (fun q => Nat.le_trans q (by decide)) (fun h => ?_)
  refine avb ?_
  cases h;exact eq_by

theorem l_markListedS_ok (N : Nat) (v0 : List (Gx.Listed)) (v1 : Int) {r : (List (Gx.Listed)) × Int} (h : l_markListedS N v0 v1 = some r) : Turn Tryz.prog 25 [.sl 0, .d (D.i v1)] [.deep 4 (List.map Gx.Listed.enc v0)] [some (.deep 4 (List.map Gx.Listed.enc r.1))] (.d (D.i r.2)) := by
 refine turn_of_walk Tryz.tok Tryz.mixed Tryz.func25 (by kernel_rfl) rfl fun W => ?_
 unfold l_markListedS at h
 refine ab0 ?_
 refine W.r_seq ?_
 refine ab0 ?_
 obtain ⟨zt6, h, gt6⟩ := bnd_some h
 refine W.r_cut (fun (t6 : (List (Gx.Listed)) × Int) => ⟨[(1, .d (D.i t6.2))], [(1, some (.deep 4 (List.map Gx.Listed.enc t6.1))), (990, some (.pin [.sl 1]))], 1000⟩) (fun t => t = zt6) ?_ ?_
 ·refine avb ?_
  refine loop_lp (fun (p1 : (List (Gx.Listed)) × Int × Int) => ⟨[(0, .sl 1), (1, .d (D.i p1.2.1)), (5, .d (D.i p1.2.2))], [(1, some (.deep 4 (List.map Gx.Listed.enc p1.1))), (990, some (.pin [.sl 1]))], 1000⟩) h ?_ ?_
  ·exact weak_by
  intro np1 p1 yp1 h hfp1
  unfold l_markListedS_L1 at h
  refine avb ?_
  refine lns (p1.1.length : Int) ?_
  refine avb ?_
  refine brb h ?_ ?_<;>intro _ h
  ·refine plb ?_;refine call_sel (E := fun (x : (List UInt8)) => DV.one (D.s x)) h (fun x1 h1 => (l_markText_ok N p1.2.1 h1)) (fun x1 hx1 h => ?_)
   refine avb ?_
   refine idxp_sel h (fun x2 hx2 h => ?_)
   refine avb ?_
   refine ldp_sel hx2 ?_
   refine avb ?_
   refine idxp_raw (show _ = List.map Gx.Listed.enc (List.set p1.1 (Int.toNat p1.2.2) (⟨x1, x2.mFrom, x2.mUntil, x2.mScore⟩ : Gx.Listed)) by (exact eq_by)) h (fun x3 hx3 h => ?_)
   refine avb ?_
   refine ldp_raw (show _ = List.map Gx.Listed.enc (List.set p1.1 (Int.toNat p1.2.2) (⟨x1, x2.mFrom, x2.mUntil, x2.mScore⟩ : Gx.Listed)) by (exact eq_by)) hx3 ?_
   refine avb ?_
   refine idxp_raw (show _ = List.map Gx.Listed.enc (List.set p1.1 (Int.toNat p1.2.2) (⟨x3.mWord, w64 (p1.2.1 + 1), x3.mUntil, x3.mScore⟩ : Gx.Listed)) by (exact eq_by)) h (fun x4 hx4 h => ?_)
   refine avb ?_
   refine ldp_raw (show _ = List.map Gx.Listed.enc (List.set p1.1 (Int.toNat p1.2.2) (⟨x3.mWord, w64 (p1.2.1 + 1), x3.mUntil, x3.mScore⟩ : Gx.Listed)) by (exact eq_by)) hx4 ?_
   refine avb ?_
   refine idxp_raw (show _ = List.map Gx.Listed.enc (List.set p1.1 (Int.toNat p1.2.2) (⟨x4.mWord, x4.mFrom, w64 ((w64 (p1.2.1 + 1)) + 1), x4.mScore⟩ : Gx.Listed)) by (exact eq_by)) h (fun x5 hx5 h => ?_)
   refine avb ?_
   refine ldp_raw (show _ = List.map Gx.Listed.enc (List.set p1.1 (Int.toNat p1.2.2) (⟨x4.mWord, x4.mFrom, w64 ((w64 (p1.2.1 + 1)) + 1), x4.mScore⟩ : Gx.Listed)) by (exact eq_by)) hx5 ?_
   refine avb ?_
   exact lbk hfp1 h
  ·have h := finr hfp1 h
   refine cut_at ((p1.1, p1.2.1)) (some_in h) ?_
   exact weak_by
 rintro t6 rfl
 have h : _ = some _ := gt6
 refine avb ?_
 obtain rfl := some_in h
 exact ⟨cons_eq (some_deep (by (exact eq_by))) (rfl), by (exact eq_by)⟩

theorem l_markMeaningS_ok (N : Nat) (v0 : List (Gx.Meaning)) (v1 : Int) {r : (List (Gx.Meaning)) × Int} (h : l_markMeaningS N v0 v1 = some r) : Turn Tryz.prog 26 [.sl 0, .d (D.i v1)] [.deep 2 (List.map Gx.Meaning.enc v0)] [some (.deep 2 (List.map Gx.Meaning.enc r.1))] (.d (D.i r.2)) := by
 refine turn_of_walk Tryz.tok Tryz.mixed Tryz.func26 (by kernel_rfl) rfl fun W => ?_
 unfold l_markMeaningS at h
 refine ab0 ?_
 refine W.r_seq ?_
 refine ab0 ?_
 obtain ⟨zt4, h, gt4⟩ := bnd_some h
 refine W.r_cut (fun (t4 : (List (Gx.Meaning)) × Int) => ⟨[(1, .d (D.i t4.2))], [(1, some (.deep 2 (List.map Gx.Meaning.enc t4.1))), (990, some (.pin [.sl 1]))], 1000⟩) (fun t => t = zt4) ?_ ?_
 ·refine avb ?_
  refine loop_lp (fun (p1 : (List (Gx.Meaning)) × Int × Int) => ⟨[(0, .sl 1), (1, .d (D.i p1.2.1)), (5, .d (D.i p1.2.2))], [(1, some (.deep 2 (List.map Gx.Meaning.enc p1.1))), (990, some (.pin [.sl 1]))], 1000⟩) h ?_ ?_
  ·exact weak_by
  intro np1 p1 yp1 h hfp1
  unfold l_markMeaningS_L1 at h
  refine avb ?_
  refine lns (p1.1.length : Int) ?_
  refine avb ?_
  refine brb h ?_ ?_<;>intro _ h
  ·refine plb ?_;refine call_sel (E := fun (x : (List UInt8)) => DV.one (D.s x)) h (fun x1 h1 => (l_markText_ok N p1.2.1 h1)) (fun x1 hx1 h => ?_)
   refine avb ?_
   refine idxp_sel h (fun x2 hx2 h => ?_)
   refine avb ?_
   refine ldp_sel hx2 ?_
   refine avb ?_
   refine idxp_raw (show _ = List.map Gx.Meaning.enc (List.set p1.1 (Int.toNat p1.2.2) (⟨x1, x2.mSense⟩ : Gx.Meaning)) by (exact eq_by)) h (fun x3 hx3 h => ?_)
   refine avb ?_
   refine ldp_raw (show _ = List.map Gx.Meaning.enc (List.set p1.1 (Int.toNat p1.2.2) (⟨x1, x2.mSense⟩ : Gx.Meaning)) by (exact eq_by)) hx3 ?_
   refine avb ?_
   exact lbk hfp1 h
  ·have h := finr hfp1 h
   refine cut_at ((p1.1, p1.2.1)) (some_in h) ?_
   exact weak_by
 rintro t4 rfl
 have h : _ = some _ := gt4
 refine avb ?_
 obtain rfl := some_in h
 exact ⟨cons_eq (some_deep (by (exact eq_by))) (rfl), by (exact eq_by)⟩

theorem l_markStepS_ok (N : Nat) (v0 : List (Gx.Step)) (v1 : Int) {r : (List (Gx.Step)) × Int} (h : l_markStepS N v0 v1 = some r) : Turn Tryz.prog 70 [.sl 0, .d (D.i v1)] [.deep 4 (List.map Gx.Step.enc v0)] [some (.deep 4 (List.map Gx.Step.enc r.1))] (.d (D.i r.2)) := by
 refine turn_of_walk Tryz.tok Tryz.mixed Tryz.func70 (by kernel_rfl) rfl fun W => ?_
 unfold l_markStepS at h
 refine ab0 ?_
 refine W.r_seq ?_
 refine ab0 ?_
 obtain ⟨zt6, h, gt6⟩ := bnd_some h
 refine W.r_cut (fun (t6 : (List (Gx.Step)) × Int) => ⟨[(1, .d (D.i t6.2))], [(1, some (.deep 4 (List.map Gx.Step.enc t6.1))), (990, some (.pin [.sl 1]))], 1000⟩) (fun t => t = zt6) ?_ ?_
 ·refine avb ?_
  refine loop_lp (fun (p1 : (List (Gx.Step)) × Int × Int) => ⟨[(0, .sl 1), (1, .d (D.i p1.2.1)), (5, .d (D.i p1.2.2))], [(1, some (.deep 4 (List.map Gx.Step.enc p1.1))), (990, some (.pin [.sl 1]))], 1000⟩) h ?_ ?_
  ·exact weak_by
  intro np1 p1 yp1 h hfp1
  unfold l_markStepS_L1 at h
  refine avb ?_
  refine lns (p1.1.length : Int) ?_
  refine avb ?_
  refine brb h ?_ ?_<;>intro _ h
  ·refine idxp_sel h (fun x1 hx1 h => ?_)
   refine avb ?_
   refine ldp_sel hx1 ?_
   refine avb ?_
   refine plb ?_;refine call_sel (E := fun (x : (List UInt8)) => DV.one (D.s x)) h (fun x2 h1 => (l_markText_ok N (w64 (p1.2.1 + 1)) h1)) (fun x2 hx2 h => ?_)
   refine avb ?_
   refine idxp_raw (show _ = List.map Gx.Step.enc (List.set p1.1 (Int.toNat p1.2.2) (⟨p1.2.1, x1.mWord, x1.mA, x1.mB⟩ : Gx.Step)) by (exact eq_by)) h (fun x3 hx3 h => ?_)
   refine avb ?_
   refine ldp_raw (show _ = List.map Gx.Step.enc (List.set p1.1 (Int.toNat p1.2.2) (⟨p1.2.1, x1.mWord, x1.mA, x1.mB⟩ : Gx.Step)) by (exact eq_by)) hx3 ?_
   refine avb ?_
   refine idxp_raw (show _ = List.map Gx.Step.enc (List.set p1.1 (Int.toNat p1.2.2) (⟨x3.mKind, x2, x3.mA, x3.mB⟩ : Gx.Step)) by (exact eq_by)) h (fun x4 hx4 h => ?_)
   refine avb ?_
   refine ldp_raw (show _ = List.map Gx.Step.enc (List.set p1.1 (Int.toNat p1.2.2) (⟨x3.mKind, x2, x3.mA, x3.mB⟩ : Gx.Step)) by (exact eq_by)) hx4 ?_
   refine avb ?_
   refine idxp_raw (show _ = List.map Gx.Step.enc (List.set p1.1 (Int.toNat p1.2.2) (⟨x4.mKind, x4.mWord, w64 ((w64 (p1.2.1 + 1)) + 1), x4.mB⟩ : Gx.Step)) by (exact eq_by)) h (fun x5 hx5 h => ?_)
   refine avb ?_
   refine ldp_raw (show _ = List.map Gx.Step.enc (List.set p1.1 (Int.toNat p1.2.2) (⟨x4.mKind, x4.mWord, w64 ((w64 (p1.2.1 + 1)) + 1), x4.mB⟩ : Gx.Step)) by (exact eq_by)) hx5 ?_
   refine avb ?_
   exact lbk hfp1 h
  ·have h := finr hfp1 h
   refine cut_at ((p1.1, p1.2.1)) (some_in h) ?_
   exact weak_by
 rintro t6 rfl
 have h : _ = some _ := gt6
 refine avb ?_
 obtain rfl := some_in h
 exact ⟨cons_eq (some_deep (by (exact eq_by))) (rfl), by (exact eq_by)⟩

theorem l_markClueS_ok (N : Nat) (v0 : List (Gx.Clue)) (v1 : Int) {r : (List (Gx.Clue)) × Int} (h : l_markClueS N v0 v1 = some r) : Turn Tryz.prog 68 [.sl 0, .d (D.i v1)] [.deep 2 (List.map Gx.Clue.enc v0)] [some (.deep 2 (List.map Gx.Clue.enc r.1))] (.d (D.i r.2)) := by
 refine turn_of_walk Tryz.tok Tryz.mixed Tryz.func68 (by kernel_rfl) rfl fun W => ?_
 unfold l_markClueS at h
 refine ab0 ?_
 refine W.r_seq ?_
 refine ab0 ?_
 obtain ⟨zt4, h, gt4⟩ := bnd_some h
 refine W.r_cut (fun (t4 : (List (Gx.Clue)) × Int) => ⟨[(1, .d (D.i t4.2))], [(1, some (.deep 2 (List.map Gx.Clue.enc t4.1))), (990, some (.pin [.sl 1]))], 1000⟩) (fun t => t = zt4) ?_ ?_
 ·refine avb ?_
  refine loop_lp (fun (p1 : (List (Gx.Clue)) × Int × Int) => ⟨[(0, .sl 1), (1, .d (D.i p1.2.1)), (5, .d (D.i p1.2.2))], [(1, some (.deep 2 (List.map Gx.Clue.enc p1.1))), (990, some (.pin [.sl 1]))], 1000⟩) h ?_ ?_
  ·exact weak_by
  intro np1 p1 yp1 h hfp1
  unfold l_markClueS_L1 at h
  refine avb ?_
  refine lns (p1.1.length : Int) ?_
  refine avb ?_
  refine brb h ?_ ?_<;>intro _ h
  ·refine idxp_sel h (fun x1 hx1 h => ?_)
   refine avb ?_
   refine ldp_sel hx1 ?_
   refine avb ?_
   refine idxp_raw (show _ = List.map Gx.Clue.enc (List.set p1.1 (Int.toNat p1.2.2) (⟨p1.2.1, x1.mPlay⟩ : Gx.Clue)) by (exact eq_by)) h (fun x2 hx2 h => ?_)
   refine avb ?_
   refine ldp_raw (show _ = List.map Gx.Clue.enc (List.set p1.1 (Int.toNat p1.2.2) (⟨p1.2.1, x1.mPlay⟩ : Gx.Clue)) by (exact eq_by)) hx2 ?_
   refine avb ?_
   refine clb ?_;refine ldp_raw (show _ = List.map Gx.Clue.enc (List.set p1.1 (Int.toNat p1.2.2) (⟨p1.2.1, x1.mPlay⟩ : Gx.Clue)) by (exact eq_by)) hx2 ?_;refine whb ?_;refine cturn_sel (R := fun (x3 : (List (Gx.Step)) × Int) => List.map Gx.Step.enc x3.1) (X := fun (x3 : (List (Gx.Step)) × Int) => Value.int .i64 x3.2) h (fun x3 h1 => (l_markStepS_ok N x2.mPlay (w64 (p1.2.1 + 1)) h1)) (fun x3 hx3 h => ?_)
   refine avb ?_
   exact lbk hfp1 h
  ·have h := finr hfp1 h
   refine cut_at ((p1.1, p1.2.1)) (some_in h) ?_
   exact weak_by
 rintro t4 rfl
 have h : _ = some _ := gt4
 refine avb ?_
 obtain rfl := some_in h
 exact ⟨cons_eq (some_deep (by (exact eq_by))) (rfl), by (exact eq_by)⟩

theorem l_markDraft_ok (N : Nat) (v0 : Gx.Draft) (v1 : Int) {r : (List (Gx.Clue)) × Int} (h : l_markDraft N v0 v1 = some r) : Turn Tryz.prog 27 [.agg [.d (D.i v0.mGrid.mRows), .d (D.i v0.mGrid.mCols), .d (D.s v0.mGrid.mCells), .d (D.s v0.mFill), .sl 0, .d (D.i v0.mVersion)], .d (D.i v1)] [.deep 2 (List.map Gx.Clue.enc v0.mClues)] [some (.deep 2 (List.map Gx.Clue.enc r.1))] (.d (D.i r.2)) := by
 refine turn_of_walk Tryz.tok Tryz.mixed Tryz.func27 (by kernel_rfl) rfl fun W => ?_
 unfold l_markDraft at h
 refine avb ?_
 refine qtb ?_;refine turn_sel (O := fun (x1 : (List (Gx.Clue)) × Int) => [some (.deep 2 (List.map Gx.Clue.enc x1.1))]) (V := fun (x1 : (List (Gx.Clue)) × Int) => .d (D.i x1.2)) h trivial (fun x1 h1 => (l_markClueS_ok N v0.mClues v1 h1)) (fun x1 hx1 h => ?_)
 refine avb ?_
 obtain rfl := some_in h
 exact ⟨cons_eq (some_deep (by (exact eq_by))) (rfl), by (exact eq_by)⟩

theorem l_markIntS_ok (N : Nat) (v0 : List (Int)) (v1 : Int) {r : (List (Int)) × Int} (h : l_markIntS N v0 v1 = some r) : Turn Tryz.prog 69 [.sl 0, .d (D.i v1)] [.deep 1 (List.map Gx.encI v0)] [some (.deep 1 (List.map Gx.encI r.1))] (.d (D.i r.2)) := by
 refine turn_of_walk Tryz.tok Tryz.mixed Tryz.func69 (by kernel_rfl) rfl fun W => ?_
 unfold l_markIntS at h
 refine ab0 ?_
 refine W.r_seq ?_
 refine ab0 ?_
 obtain ⟨zt2, h, gt2⟩ := bnd_some h
 refine W.r_cut (fun (t2 : (List (Int)) × Int) => ⟨[(1, .d (D.i t2.2))], [(1, some (.deep 1 (List.map Gx.encI t2.1))), (990, some (.pin [.sl 1]))], 1000⟩) (fun t => t = zt2) ?_ ?_
 ·refine avb ?_
  refine loop_lp (fun (p1 : (List (Int)) × Int × Int) => ⟨[(0, .sl 1), (1, .d (D.i p1.2.1)), (5, .d (D.i p1.2.2))], [(1, some (.deep 1 (List.map Gx.encI p1.1))), (990, some (.pin [.sl 1]))], 1000⟩) h ?_ ?_
  ·exact weak_by
  intro np1 p1 yp1 h hfp1
  unfold l_markIntS_L1 at h
  refine avb ?_
  refine lns (p1.1.length : Int) ?_
  refine avb ?_
  refine brb h ?_ ?_<;>intro _ h
  ·refine idxp_sel h (fun x1 hx1 h => ?_)
   refine avb ?_
   refine ldp_sel hx1 ?_
   refine avb ?_
   exact lbk hfp1 h
  ·have h := finr hfp1 h
   refine cut_at ((p1.1, p1.2.1)) (some_in h) ?_
   exact weak_by
 rintro t2 rfl
 have h : _ = some _ := gt2
 refine avb ?_
 obtain rfl := some_in h
 exact ⟨cons_eq (some_deep (by (exact eq_by))) (rfl), by (exact eq_by)⟩

theorem l_markIssueS_ok (N : Nat) (v0 : List (Gx.Issue)) (v1 : Int) {r : (List (Gx.Issue)) × Int} (h : l_markIssueS N v0 v1 = some r) : Turn Tryz.prog 28 [.sl 0, .d (D.i v1)] [.deep 10 (List.map Gx.Issue.enc v0)] [some (.deep 10 (List.map Gx.Issue.enc r.1))] (.d (D.i r.2)) := by
 refine turn_of_walk Tryz.tok Tryz.mixed Tryz.func28 (by kernel_rfl) rfl fun W => ?_
 unfold l_markIssueS at h
 refine ab0 ?_
 refine W.r_seq ?_
 refine ab0 ?_
 obtain ⟨zt15, h, gt15⟩ := bnd_some h
 refine W.r_cut (fun (t15 : (List (Gx.Issue)) × Int) => ⟨[(1, .d (D.i t15.2))], [(1, some (.deep 10 (List.map Gx.Issue.enc t15.1))), (990, some (.pin [.sl 1]))], 1000⟩) (fun t => t = zt15) ?_ ?_
 ·refine avb ?_
  refine loop_lp (fun (p1 : (List (Gx.Issue)) × Int × Int) => ⟨[(0, .sl 1), (1, .d (D.i p1.2.1)), (5, .d (D.i p1.2.2))], [(1, some (.deep 10 (List.map Gx.Issue.enc p1.1))), (990, some (.pin [.sl 1]))], 1000⟩) h ?_ ?_
  ·exact weak_by
  intro np1 p1 yp1 h hfp1
  unfold l_markIssueS_L1 at h
  refine avb ?_
  refine lns (p1.1.length : Int) ?_
  refine avb ?_
  refine brb h ?_ ?_<;>intro _ h
  ·refine idxp_sel h (fun x1 hx1 h => ?_)
   refine avb ?_
   refine ldp_sel hx1 ?_
   refine avb ?_
   refine idxp_raw (show _ = List.map Gx.Issue.enc (List.set p1.1 (Int.toNat p1.2.2) (⟨p1.2.1, (⟨(⟨x1.mPuzzle.mGrid.mRows, x1.mPuzzle.mGrid.mCols, x1.mPuzzle.mGrid.mCells⟩ : Gx.Grid), x1.mPuzzle.mClues, x1.mPuzzle.mSeals, x1.mPuzzle.mSalt⟩ : Gx.Puzzle), x1.mFill, x1.mOpen, x1.mClose⟩ : Gx.Issue)) by (exact eq_by)) h (fun x2 hx2 h => ?_)
   refine avb ?_
   refine ldp_raw (show _ = List.map Gx.Issue.enc (List.set p1.1 (Int.toNat p1.2.2) (⟨p1.2.1, (⟨(⟨x1.mPuzzle.mGrid.mRows, x1.mPuzzle.mGrid.mCols, x1.mPuzzle.mGrid.mCells⟩ : Gx.Grid), x1.mPuzzle.mClues, x1.mPuzzle.mSeals, x1.mPuzzle.mSalt⟩ : Gx.Puzzle), x1.mFill, x1.mOpen, x1.mClose⟩ : Gx.Issue)) by (exact eq_by)) hx2 ?_
   refine avb ?_
   refine idxp_raw (show _ = List.map Gx.Issue.enc (List.set p1.1 (Int.toNat p1.2.2) (⟨x2.mNumber, (⟨(⟨w64 (p1.2.1 + 1), x2.mPuzzle.mGrid.mCols, x2.mPuzzle.mGrid.mCells⟩ : Gx.Grid), x2.mPuzzle.mClues, x2.mPuzzle.mSeals, x2.mPuzzle.mSalt⟩ : Gx.Puzzle), x2.mFill, x2.mOpen, x2.mClose⟩ : Gx.Issue)) by (exact eq_by)) h (fun x3 hx3 h => ?_)
   refine avb ?_
   refine ldp_raw (show _ = List.map Gx.Issue.enc (List.set p1.1 (Int.toNat p1.2.2) (⟨x2.mNumber, (⟨(⟨w64 (p1.2.1 + 1), x2.mPuzzle.mGrid.mCols, x2.mPuzzle.mGrid.mCells⟩ : Gx.Grid), x2.mPuzzle.mClues, x2.mPuzzle.mSeals, x2.mPuzzle.mSalt⟩ : Gx.Puzzle), x2.mFill, x2.mOpen, x2.mClose⟩ : Gx.Issue)) by (exact eq_by)) hx3 ?_
   refine avb ?_
   refine plb ?_;refine call_sel (E := fun (x : (List UInt8)) => DV.one (D.s x)) h (fun x4 h1 => (l_markText_ok N (w64 ((w64 ((w64 (p1.2.1 + 1)) + 1)) + 1)) h1)) (fun x4 hx4 h => ?_)
   refine avb ?_
   refine idxp_raw (show _ = List.map Gx.Issue.enc (List.set p1.1 (Int.toNat p1.2.2) (⟨x3.mNumber, (⟨(⟨x3.mPuzzle.mGrid.mRows, w64 ((w64 (p1.2.1 + 1)) + 1), x3.mPuzzle.mGrid.mCells⟩ : Gx.Grid), x3.mPuzzle.mClues, x3.mPuzzle.mSeals, x3.mPuzzle.mSalt⟩ : Gx.Puzzle), x3.mFill, x3.mOpen, x3.mClose⟩ : Gx.Issue)) by (exact eq_by)) h (fun x5 hx5 h => ?_)
   refine avb ?_
   refine ldp_raw (show _ = List.map Gx.Issue.enc (List.set p1.1 (Int.toNat p1.2.2) (⟨x3.mNumber, (⟨(⟨x3.mPuzzle.mGrid.mRows, w64 ((w64 (p1.2.1 + 1)) + 1), x3.mPuzzle.mGrid.mCells⟩ : Gx.Grid), x3.mPuzzle.mClues, x3.mPuzzle.mSeals, x3.mPuzzle.mSalt⟩ : Gx.Puzzle), x3.mFill, x3.mOpen, x3.mClose⟩ : Gx.Issue)) by (exact eq_by)) hx5 ?_
   refine avb ?_
   refine idxp_raw (show _ = List.map Gx.Issue.enc (List.set p1.1 (Int.toNat p1.2.2) (⟨x5.mNumber, (⟨(⟨x5.mPuzzle.mGrid.mRows, x5.mPuzzle.mGrid.mCols, x4⟩ : Gx.Grid), x5.mPuzzle.mClues, x5.mPuzzle.mSeals, x5.mPuzzle.mSalt⟩ : Gx.Puzzle), x5.mFill, x5.mOpen, x5.mClose⟩ : Gx.Issue)) by (exact eq_by)) h (fun x6 hx6 h => ?_)
   refine avb ?_
   refine ldp_raw (show _ = List.map Gx.Issue.enc (List.set p1.1 (Int.toNat p1.2.2) (⟨x5.mNumber, (⟨(⟨x5.mPuzzle.mGrid.mRows, x5.mPuzzle.mGrid.mCols, x4⟩ : Gx.Grid), x5.mPuzzle.mClues, x5.mPuzzle.mSeals, x5.mPuzzle.mSalt⟩ : Gx.Puzzle), x5.mFill, x5.mOpen, x5.mClose⟩ : Gx.Issue)) by (exact eq_by)) hx6 ?_
   refine avb ?_
   refine clb ?_;refine ldp_raw (show _ = List.map Gx.Issue.enc (List.set p1.1 (Int.toNat p1.2.2) (⟨x5.mNumber, (⟨(⟨x5.mPuzzle.mGrid.mRows, x5.mPuzzle.mGrid.mCols, x4⟩ : Gx.Grid), x5.mPuzzle.mClues, x5.mPuzzle.mSeals, x5.mPuzzle.mSalt⟩ : Gx.Puzzle), x5.mFill, x5.mOpen, x5.mClose⟩ : Gx.Issue)) by (exact eq_by)) hx6 ?_;refine whb ?_;refine cturn_sel (R := fun (x7 : (List (Gx.Clue)) × Int) => List.map Gx.Clue.enc x7.1) (X := fun (x7 : (List (Gx.Clue)) × Int) => Value.int .i64 x7.2) h (fun x7 h1 => (l_markClueS_ok N x6.mPuzzle.mClues (w64 ((w64 ((w64 ((w64 (p1.2.1 + 1)) + 1)) + 1)) + 1)) h1)) (fun x7 hx7 h => ?_)
   refine avb ?_
   refine idxp_raw (show _ = List.map Gx.Issue.enc (List.set p1.1 (Int.toNat p1.2.2) (⟨x6.mNumber, (⟨(⟨x6.mPuzzle.mGrid.mRows, x6.mPuzzle.mGrid.mCols, x6.mPuzzle.mGrid.mCells⟩ : Gx.Grid), x7.1, x6.mPuzzle.mSeals, x6.mPuzzle.mSalt⟩ : Gx.Puzzle), x6.mFill, x6.mOpen, x6.mClose⟩ : Gx.Issue)) by (exact eq_by)) h (fun x8 hx8 h => ?_)
   refine avb ?_
   refine ldp_raw (show _ = List.map Gx.Issue.enc (List.set p1.1 (Int.toNat p1.2.2) (⟨x6.mNumber, (⟨(⟨x6.mPuzzle.mGrid.mRows, x6.mPuzzle.mGrid.mCols, x6.mPuzzle.mGrid.mCells⟩ : Gx.Grid), x7.1, x6.mPuzzle.mSeals, x6.mPuzzle.mSalt⟩ : Gx.Puzzle), x6.mFill, x6.mOpen, x6.mClose⟩ : Gx.Issue)) by (exact eq_by)) hx8 ?_
   refine avb ?_
   refine clb ?_;refine ldp_raw (show _ = List.map Gx.Issue.enc (List.set p1.1 (Int.toNat p1.2.2) (⟨x6.mNumber, (⟨(⟨x6.mPuzzle.mGrid.mRows, x6.mPuzzle.mGrid.mCols, x6.mPuzzle.mGrid.mCells⟩ : Gx.Grid), x7.1, x6.mPuzzle.mSeals, x6.mPuzzle.mSalt⟩ : Gx.Puzzle), x6.mFill, x6.mOpen, x6.mClose⟩ : Gx.Issue)) by (exact eq_by)) hx8 ?_;refine whb ?_;refine cturn_sel (R := fun (x9 : (List (Int)) × Int) => List.map Gx.encI x9.1) (X := fun (x9 : (List (Int)) × Int) => Value.int .i64 x9.2) h (fun x9 h1 => (l_markIntS_ok N x8.mPuzzle.mSeals x7.2 h1)) (fun x9 hx9 h => ?_)
   refine avb ?_
   refine idxp_raw (show _ = List.map Gx.Issue.enc (List.set p1.1 (Int.toNat p1.2.2) (⟨x8.mNumber, (⟨(⟨x8.mPuzzle.mGrid.mRows, x8.mPuzzle.mGrid.mCols, x8.mPuzzle.mGrid.mCells⟩ : Gx.Grid), x8.mPuzzle.mClues, x9.1, x8.mPuzzle.mSalt⟩ : Gx.Puzzle), x8.mFill, x8.mOpen, x8.mClose⟩ : Gx.Issue)) by (exact eq_by)) h (fun x10 hx10 h => ?_)
   refine avb ?_
   refine ldp_raw (show _ = List.map Gx.Issue.enc (List.set p1.1 (Int.toNat p1.2.2) (⟨x8.mNumber, (⟨(⟨x8.mPuzzle.mGrid.mRows, x8.mPuzzle.mGrid.mCols, x8.mPuzzle.mGrid.mCells⟩ : Gx.Grid), x8.mPuzzle.mClues, x9.1, x8.mPuzzle.mSalt⟩ : Gx.Puzzle), x8.mFill, x8.mOpen, x8.mClose⟩ : Gx.Issue)) by (exact eq_by)) hx10 ?_
   refine avb ?_
   refine plb ?_;refine call_sel (E := fun (x : (List UInt8)) => DV.one (D.s x)) h (fun x11 h1 => (l_markText_ok N (w64 (x9.2 + 1)) h1)) (fun x11 hx11 h => ?_)
   refine avb ?_
   refine idxp_raw (show _ = List.map Gx.Issue.enc (List.set p1.1 (Int.toNat p1.2.2) (⟨x10.mNumber, (⟨(⟨x10.mPuzzle.mGrid.mRows, x10.mPuzzle.mGrid.mCols, x10.mPuzzle.mGrid.mCells⟩ : Gx.Grid), x10.mPuzzle.mClues, x10.mPuzzle.mSeals, x9.2⟩ : Gx.Puzzle), x10.mFill, x10.mOpen, x10.mClose⟩ : Gx.Issue)) by (exact eq_by)) h (fun x12 hx12 h => ?_)
   refine avb ?_
   refine ldp_raw (show _ = List.map Gx.Issue.enc (List.set p1.1 (Int.toNat p1.2.2) (⟨x10.mNumber, (⟨(⟨x10.mPuzzle.mGrid.mRows, x10.mPuzzle.mGrid.mCols, x10.mPuzzle.mGrid.mCells⟩ : Gx.Grid), x10.mPuzzle.mClues, x10.mPuzzle.mSeals, x9.2⟩ : Gx.Puzzle), x10.mFill, x10.mOpen, x10.mClose⟩ : Gx.Issue)) by (exact eq_by)) hx12 ?_
   refine avb ?_
   refine idxp_raw (show _ = List.map Gx.Issue.enc (List.set p1.1 (Int.toNat p1.2.2) (⟨x12.mNumber, (⟨(⟨x12.mPuzzle.mGrid.mRows, x12.mPuzzle.mGrid.mCols, x12.mPuzzle.mGrid.mCells⟩ : Gx.Grid), x12.mPuzzle.mClues, x12.mPuzzle.mSeals, x12.mPuzzle.mSalt⟩ : Gx.Puzzle), x11, x12.mOpen, x12.mClose⟩ : Gx.Issue)) by (exact eq_by)) h (fun x13 hx13 h => ?_)
   refine avb ?_
   refine ldp_raw (show _ = List.map Gx.Issue.enc (List.set p1.1 (Int.toNat p1.2.2) (⟨x12.mNumber, (⟨(⟨x12.mPuzzle.mGrid.mRows, x12.mPuzzle.mGrid.mCols, x12.mPuzzle.mGrid.mCells⟩ : Gx.Grid), x12.mPuzzle.mClues, x12.mPuzzle.mSeals, x12.mPuzzle.mSalt⟩ : Gx.Puzzle), x11, x12.mOpen, x12.mClose⟩ : Gx.Issue)) by (exact eq_by)) hx13 ?_
   refine avb ?_
   refine idxp_raw (show _ = List.map Gx.Issue.enc (List.set p1.1 (Int.toNat p1.2.2) (⟨x13.mNumber, (⟨(⟨x13.mPuzzle.mGrid.mRows, x13.mPuzzle.mGrid.mCols, x13.mPuzzle.mGrid.mCells⟩ : Gx.Grid), x13.mPuzzle.mClues, x13.mPuzzle.mSeals, x13.mPuzzle.mSalt⟩ : Gx.Puzzle), x13.mFill, w64 ((w64 (x9.2 + 1)) + 1), x13.mClose⟩ : Gx.Issue)) by (exact eq_by)) h (fun x14 hx14 h => ?_)
   refine avb ?_
   refine ldp_raw (show _ = List.map Gx.Issue.enc (List.set p1.1 (Int.toNat p1.2.2) (⟨x13.mNumber, (⟨(⟨x13.mPuzzle.mGrid.mRows, x13.mPuzzle.mGrid.mCols, x13.mPuzzle.mGrid.mCells⟩ : Gx.Grid), x13.mPuzzle.mClues, x13.mPuzzle.mSeals, x13.mPuzzle.mSalt⟩ : Gx.Puzzle), x13.mFill, w64 ((w64 (x9.2 + 1)) + 1), x13.mClose⟩ : Gx.Issue)) by (exact eq_by)) hx14 ?_
   refine avb ?_
   exact lbk hfp1 h
  ·have h := finr hfp1 h
   refine cut_at ((p1.1, p1.2.1)) (some_in h) ?_
   exact weak_by
 rintro t15 rfl
 have h : _ = some _ := gt15
 refine avb ?_
 obtain rfl := some_in h
 exact ⟨cons_eq (some_deep (by (exact eq_by))) (rfl), by (exact eq_by)⟩

end Lw
end Go.Proofs
