/- PRINTED BY gen.py (mine): their contracts. -/
import Derived.Test.YtniibgdokfnomaaGreatAvPfStepWord0
namespace Go.Proofs
open Go Go.Av
set_option maxRecDepth 100000
set_option maxHeartbeats 40000000
set_option linter.unusedVariables false
set_option linter.unusedSimpArgs false
namespace Lw
theorem s_l33Copy_ok (N : Nat) (v0 : Gx.House) {r : Gx.House} (h : s_l33Copy N v0 = some r) : Pure Tryz.prog 50 [DV.agg (Gx.House.enc v0)] (DV.agg (Gx.House.enc r)) := by
 refine pure_of_walk Tryz.tok Tryz.mixed Tryz.func50 (by kernel_rfl) fun W => ?_
 unfold s_l33Copy at h
 refine avb ?_
 refine app_sel h (app_ok (by (first|rfl|simp [sub])) (by (first|rfl|simp [sub])) (by decide)) (by (intro _; first | exact flat_map (fun _ => rfl) | exact flat_take (flat_drop (flat_map (fun _ => rfl))))) (fun h => ?_)
 refine avb ?_
 refine app_sel h (app_ok (by (first|rfl|simp [sub])) (by (first|rfl|simp [sub])) (by decide)) (by (intro _; first | exact flat_map (fun _ => rfl) | exact flat_take (flat_drop (flat_map (fun _ => rfl))))) (fun h => ?_)
 refine avb ?_
 refine plb ?_;refine call_sel (E := fun (x : Gx.Draft) => DV.agg (Gx.Draft.enc x)) h (fun x1 h1 => (s_l27Copy_ok N v0.mDesk h1)) (fun x1 hx1 h => ?_)
 refine avb ?_
 refine app_sel h (app_ok (by (first|rfl|simp [sub])) (by (first|rfl|simp [sub])) (by decide)) (by (intro _; first | exact flat_map (fun _ => rfl) | exact flat_take (flat_drop (flat_map (fun _ => rfl))))) (fun h => ?_)
 refine avb ?_
 refine plb ?_;refine call_sel (E := fun (x : (List (Gx.Correction))) => DV.one (D.sl 5 (List.map Gx.Correction.enc x))) h (fun x2 h1 => (s_l31Copy_ok N v0.mCorrections h1)) (fun x2 hx2 h => ?_)
 refine avb ?_
 refine app_sel h (app_ok (by (first|rfl|simp [sub])) (by (first|rfl|simp [sub])) (by decide)) (by (intro _; first | exact flat_map (fun _ => rfl) | exact flat_take (flat_drop (flat_map (fun _ => rfl))))) (fun h => ?_)
 refine ab0 ?_
 obtain ⟨zt5, h, gt5⟩ := bnd_some h
 refine W.r_cut (fun (t5 : (List (Gx.Issue))) => ⟨[(2, .ptr 1 0 0), (3, .ptr 2 0 0)], [(1, some (.box [.d (D.sl 4 (List.map Gx.Listed.enc ([]))), .d (D.sl 2 (List.map Gx.Meaning.enc ([]))), .d (D.i 0), .d (D.i 0), .d (D.s ([] : List UInt8)), .d (D.s ([] : List UInt8)), .d (D.sl 2 (List.map Gx.Clue.enc ([]))), .d (D.i 0), .d (D.sl 10 (List.map Gx.Issue.enc ([]))), .d (D.sl 2 (List.map Gx.Used.enc ([]))), .d (D.sl 5 (List.map Gx.Correction.enc ([]))), .d (D.sl 4 (List.map Gx.Entry.enc ([]))), .d (D.i 0)])), (2, some (.box [.sl 3, .sl 4, .d (D.i x1.mGrid.mRows), .d (D.i x1.mGrid.mCols), .d (D.s x1.mGrid.mCells), .d (D.s x1.mFill), .sl 5, .d (D.i x1.mVersion), .sl 6, .sl 7, .sl 8, .sl 9, .d (D.i v0.mNow)])), (3, some (.arr 4 (List.map Gx.Listed.enc v0.mList) true)), (4, some (.arr 2 (List.map Gx.Meaning.enc v0.mDict) true)), (5, some (.arr 2 (List.map Gx.Clue.enc x1.mClues) true)), (6, some (.arr 10 (List.map Gx.Issue.enc t5) true)), (7, some (.arr 2 (List.map Gx.Used.enc v0.mUses) true)), (8, some (.arr 5 (List.map Gx.Correction.enc x2) true)), (9, some (.arr 4 (List.map Gx.Entry.enc v0.mEntries) true))], 1000⟩) (fun t => t = zt5) ?_ ?_
 ·refine avb ?_
  refine loop_lp (fun (p1 : (List (Gx.Issue)) × Int) => ⟨[(1, .ptr 1 0 0), (2, .ptr 2 0 0), (3, .ptr 3 0 0), (4, .d (D.i p1.2))], [(1, some (.box [.d (D.sl 4 (List.map Gx.Listed.enc v0.mList)), .d (D.sl 2 (List.map Gx.Meaning.enc v0.mDict)), .d (D.i v0.mDesk.mGrid.mRows), .d (D.i v0.mDesk.mGrid.mCols), .d (D.s v0.mDesk.mGrid.mCells), .d (D.s v0.mDesk.mFill), .d (D.sl 2 (List.map Gx.Clue.enc v0.mDesk.mClues)), .d (D.i v0.mDesk.mVersion), .d (D.sl 10 (List.map Gx.Issue.enc v0.mIssues)), .d (D.sl 2 (List.map Gx.Used.enc v0.mUses)), .d (D.sl 5 (List.map Gx.Correction.enc v0.mCorrections)), .d (D.sl 4 (List.map Gx.Entry.enc v0.mEntries)), .d (D.i v0.mNow)])), (2, some (.box [.d (D.sl 4 (List.map Gx.Listed.enc ([]))), .d (D.sl 2 (List.map Gx.Meaning.enc ([]))), .d (D.i 0), .d (D.i 0), .d (D.s ([] : List UInt8)), .d (D.s ([] : List UInt8)), .d (D.sl 2 (List.map Gx.Clue.enc ([]))), .d (D.i 0), .d (D.sl 10 (List.map Gx.Issue.enc ([]))), .d (D.sl 2 (List.map Gx.Used.enc ([]))), .d (D.sl 5 (List.map Gx.Correction.enc ([]))), .d (D.sl 4 (List.map Gx.Entry.enc ([]))), .d (D.i 0)])), (3, some (.box [.sl 4, .sl 5, .d (D.i x1.mGrid.mRows), .d (D.i x1.mGrid.mCols), .d (D.s x1.mGrid.mCells), .d (D.s x1.mFill), .sl 6, .d (D.i x1.mVersion), .sl 7, .sl 8, .sl 9, .sl 10, .d (D.i v0.mNow)])), (4, some (.arr 4 (List.map Gx.Listed.enc v0.mList) true)), (5, some (.arr 2 (List.map Gx.Meaning.enc v0.mDict) true)), (6, some (.arr 2 (List.map Gx.Clue.enc x1.mClues) true)), (7, some (.arr 10 (List.map Gx.Issue.enc p1.1) true)), (8, some (.arr 2 (List.map Gx.Used.enc v0.mUses) true)), (9, some (.arr 5 (List.map Gx.Correction.enc x2) true)), (10, some (.arr 4 (List.map Gx.Entry.enc v0.mEntries) true))], 1000⟩) h ?_ ?_
  ·exact weak_by
  intro np1 p1 yp1 h hfp1
  unfold s_l33Copy_L1 at h
  refine avb ?_
  refine lns (v0.mIssues.length : Int) ?_
  refine avb ?_
  refine brb h ?_ ?_<;>intro _ h
  ·refine idx_sel h (fun x3 hx3 h => ?_)
   refine avb ?_
   refine plb ?_;refine call_sel (E := fun (x : Gx.Issue) => DV.agg (Gx.Issue.enc x)) h (fun x4 h1 => (s_l30Copy_ok N x3 h1)) (fun x4 hx4 h => ?_)
   refine avb ?_
   refine app_sel h (app_ok (by (first|rfl|simp [sub])) (by (first|rfl|simp [sub])) (by decide)) (by (intro h; cases h)) (fun h => ?_)
   refine avb ?_
   exact lbk hfp1 h
  ·have h := finr hfp1 h
   refine cut_at (p1.1) (some_in h) ?_
   exact weak_by
 rintro t5 rfl
 have h : _ = some _ := gt5
 refine avb ?_
 cases h;exact eq_by

end Lw
end Go.Proofs
