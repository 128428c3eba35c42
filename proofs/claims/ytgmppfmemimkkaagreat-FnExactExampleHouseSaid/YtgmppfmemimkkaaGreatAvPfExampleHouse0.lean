/- PRINTED BY gen.py (mine): their contracts. -/
import Derived.Test.YtgmppfmemimkkaaGreatAvHpExampleHouse
namespace Go.Proofs
open Go Go.Av
set_option maxRecDepth 100000
set_option maxHeartbeats 4000000
set_option linter.unusedVariables false
set_option linter.unusedSimpArgs false
namespace Lw
theorem s_ExampleWords_ok (N : Nat) {r : (List (List UInt8))} (h : s_ExampleWords N = some r) : Pure Tryz.prog 14 [] (DV.one (D.sl 1 (List.map Gx.encS r))) := by
 refine pure_of_walk Tryz.tok Tryz.mixed Tryz.func14 (by kernel_rfl) fun W => ?_
 unfold s_ExampleWords at h
 refine avb ?_
 cases h;exact eq_by

theorem s_l18Copy_ok (N : Nat) (v0 : Gx.Clue) {r : Gx.Clue} (h : s_l18Copy N v0 = some r) : Pure Tryz.prog 129 [DV.agg (Gx.Clue.enc v0)] (DV.agg (Gx.Clue.enc r)) := by
 refine pure_of_walk Tryz.tok Tryz.mixed Tryz.func129 (by kernel_rfl) fun W => ?_
 unfold s_l18Copy at h
 refine avb ?_
 refine app_sel h (app_ok (by (first|rfl|simp [sub])) (by (first|rfl|simp [sub])) (by decide)) (by (intro _; first | exact flat_map (fun _ => rfl) | exact flat_take (flat_drop (flat_map (fun _ => rfl))))) (fun h => ?_)
 refine avb ?_
 cases h;exact eq_by

theorem s_l21Clues_ok (N : Nat) (v0 : List (Gx.Clue)) {r : (List (Gx.Clue))} (h : s_l21Clues N v0 = some r) : Pure Tryz.prog 128 [DV.one (D.sl 2 (List.map Gx.Clue.enc v0))] (DV.one (D.sl 2 (List.map Gx.Clue.enc r))) := by
 refine pure_of_walk Tryz.tok Tryz.mixed Tryz.func128 (by kernel_rfl) fun W => ?_
 unfold s_l21Clues at h
 refine ab0 ?_
 refine W.r_seq ?_
 refine ab0 ?_
 refine W.r_seq ?_
 refine ab0 ?_
 obtain ⟨zt3, h, gt3⟩ := bnd_some h
 refine W.r_cut (fun (t3 : (List (Gx.Clue))) => ⟨[(3, .sl 1)], [(1, some (.arr 2 (List.map Gx.Clue.enc t3) true))], 1000⟩) (fun t => t = zt3) ?_ ?_
 ·refine avb ?_
  refine loop_lp (fun (p1 : (List (Gx.Clue)) × Int) => ⟨[(0, .d (D.sl 2 (List.map Gx.Clue.enc v0))), (3, .sl 1), (4, .d (D.i p1.2))], [(1, some (.arr 2 (List.map Gx.Clue.enc p1.1) true))], 1000⟩) h ?_ ?_
  ·exact weak_by
  intro np1 p1 yp1 h hfp1
  unfold s_l21Clues_L1 at h
  refine avb ?_
  refine lns (v0.length : Int) ?_
  refine avb ?_
  refine brb h ?_ ?_<;>intro _ h
  ·refine idx_sel h (fun x1 hx1 h => ?_)
   refine avb ?_
   refine plb ?_;refine call_sel (E := fun (x : Gx.Clue) => DV.agg (Gx.Clue.enc x)) h (fun x2 h1 => (s_l18Copy_ok N x1 h1)) (fun x2 hx2 h => ?_)
   refine avb ?_
   refine app_sel h (app_ok (by (first|rfl|simp [sub])) (by (first|rfl|simp [sub])) (by decide)) (by (intro h; cases h)) (fun h => ?_)
   refine avb ?_
   exact lbk hfp1 h
  ·have h := finr hfp1 h
   refine cut_at (p1.1) (some_in h) ?_
   exact weak_by
 rintro t3 rfl
 have h : _ = some _ := gt3
 refine avb ?_
 cases h;exact eq_by

theorem s_l27Copy_ok (N : Nat) (v0 : Gx.Draft) {r : Gx.Draft} (h : s_l27Copy N v0 = some r) : Pure Tryz.prog 82 [DV.agg (Gx.Draft.enc v0)] (DV.agg (Gx.Draft.enc r)) := by
 refine pure_of_walk Tryz.tok Tryz.mixed Tryz.func82 (by kernel_rfl) fun W => ?_
 unfold s_l27Copy at h
 refine avb ?_
 refine plb ?_;refine call_sel (E := fun (x : (List (Gx.Clue))) => DV.one (D.sl 2 (List.map Gx.Clue.enc x))) h (fun x1 h1 => (s_l21Clues_ok N v0.mClues h1)) (fun x1 hx1 h => ?_)
 refine avb ?_
 cases h;exact eq_by

theorem s_l31Copy_ok (N : Nat) (v0 : List (Gx.Correction)) {r : (List (Gx.Correction))} (h : s_l31Copy N v0 = some r) : Pure Tryz.prog 83 [DV.one (D.sl 5 (List.map Gx.Correction.enc v0))] (DV.one (D.sl 5 (List.map Gx.Correction.enc r))) := by
 refine pure_of_walk Tryz.tok Tryz.mixed Tryz.func83 (by kernel_rfl) fun W => ?_
 unfold s_l31Copy at h
 refine ab0 ?_
 refine W.r_seq ?_
 refine ab0 ?_
 refine W.r_seq ?_
 refine ab0 ?_
 obtain ⟨zt3, h, gt3⟩ := bnd_some h
 refine W.r_cut (fun (t3 : (List (Gx.Correction))) => ⟨[(3, .sl 1)], [(1, some (.arr 5 (List.map Gx.Correction.enc t3) true))], 1000⟩) (fun t => t = zt3) ?_ ?_
 ·refine avb ?_
  refine loop_lp (fun (p1 : (List (Gx.Correction)) × Int) => ⟨[(0, .d (D.sl 5 (List.map Gx.Correction.enc v0))), (3, .sl 1), (4, .d (D.i p1.2))], [(1, some (.arr 5 (List.map Gx.Correction.enc p1.1) true))], 1000⟩) h ?_ ?_
  ·exact weak_by
  intro np1 p1 yp1 h hfp1
  unfold s_l31Copy_L1 at h
  refine avb ?_
  refine lns (v0.length : Int) ?_
  refine avb ?_
  refine brb h ?_ ?_<;>intro _ h
  ·refine idx_sel h (fun x1 hx1 h => ?_)
   refine avb ?_
   refine plb ?_;refine call_sel (E := fun (x : Gx.Clue) => DV.agg (Gx.Clue.enc x)) h (fun x2 h1 => (s_l18Copy_ok N x1.mClue h1)) (fun x2 hx2 h => ?_)
   refine avb ?_
   refine app_sel h (app_ok (by (first|rfl|simp [sub])) (by (first|rfl|simp [sub])) (by decide)) (by (intro h; cases h)) (fun h => ?_)
   refine avb ?_
   exact lbk hfp1 h
  ·have h := finr hfp1 h
   refine cut_at (p1.1) (some_in h) ?_
   exact weak_by
 rintro t3 rfl
 have h : _ = some _ := gt3
 refine avb ?_
 cases h;exact eq_by

theorem s_l21Copy_ok (N : Nat) (v0 : Gx.Puzzle) {r : Gx.Puzzle} (h : s_l21Copy N v0 = some r) : Pure Tryz.prog 130 [DV.agg (Gx.Puzzle.enc v0)] (DV.agg (Gx.Puzzle.enc r)) := by
 refine pure_of_walk Tryz.tok Tryz.mixed Tryz.func130 (by kernel_rfl) fun W => ?_
 unfold s_l21Copy at h
 refine avb ?_
 refine plb ?_;refine call_sel (E := fun (x : (List (Gx.Clue))) => DV.one (D.sl 2 (List.map Gx.Clue.enc x))) h (fun x1 h1 => (s_l21Clues_ok N v0.mClues h1)) (fun x1 hx1 h => ?_)
 refine avb ?_
 refine app_sel h (app_ok (by (first|rfl|simp [sub])) (by (first|rfl|simp [sub])) (by decide)) (by (intro _; first | exact flat_map (fun _ => rfl) | exact flat_take (flat_drop (flat_map (fun _ => rfl))))) (fun h => ?_)
 refine avb ?_
 cases h;exact eq_by

theorem s_l30Copy_ok (N : Nat) (v0 : Gx.Issue) {r : Gx.Issue} (h : s_l30Copy N v0 = some r) : Pure Tryz.prog 84 [DV.agg (Gx.Issue.enc v0)] (DV.agg (Gx.Issue.enc r)) := by
 refine pure_of_walk Tryz.tok Tryz.mixed Tryz.func84 (by kernel_rfl) fun W => ?_
 unfold s_l30Copy at h
 refine avb ?_
 refine plb ?_;refine call_sel (E := fun (x : Gx.Puzzle) => DV.agg (Gx.Puzzle.enc x)) h (fun x1 h1 => (s_l21Copy_ok N v0.mPuzzle h1)) (fun x1 hx1 h => ?_)
 refine avb ?_
 cases h;exact eq_by

end Lw
end Go.Proofs
