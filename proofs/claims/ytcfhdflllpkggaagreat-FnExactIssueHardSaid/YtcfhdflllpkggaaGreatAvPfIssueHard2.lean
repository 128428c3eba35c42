/- PRINTED BY gen.py (mine): their contracts. -/
import Derived.Test.YtcfhdflllpkggaaGreatAvPfIssueHard1
namespace Go.Proofs
open Go Go.Av
set_option maxRecDepth 100000
set_option maxHeartbeats 4000000
set_option linter.unusedVariables false
set_option linter.unusedSimpArgs false
namespace Lw
theorem i_IsClue_ok (N : Nat) (v0 : Gx.Clue) {r : Bool} (h : i_IsClue N v0 = some r) : Pure Tryz.prog 126 [DV.agg (Gx.Clue.enc v0)] (DV.one (D.b r)) := by
  refine pure_of_walk Tryz.tok Tryz.mixed Tryz.func126 (by kernel_rfl) fun W => ?_
  unfold i_IsClue at h
  (refine avb ?_)
  (refine plb ?_);refine call_sel (E := fun (x : Bool) => DV.one (D.b x)) h (fun x1 h1 => (i_InRange_ok N v0.mSense 1 99 h1)) (fun x1 hx1 h => ?_)
  (refine avb ?_)
  refine br_sel h (fun _ h => ?_) (fun _ h => ?_)
  · (refine avb ?_)
    (refine plb ?_);refine call_sel (E := fun (x : Bool) => DV.one (D.b x)) h (fun x2 h1 => (i_IsPlay_ok N v0.mPlay h1)) (fun x2 hx2 h => ?_)
    (refine avb ?_)
    obtain rfl := some_in h
    (exact eq_by)
  · (refine avb ?_)
    obtain rfl := some_in h
    (exact eq_by)

theorem i_IsPuzzle_1_ok (N : Nat) (v0 : Gx.Clue) {r : Bool} (h : i_IsPuzzle_1 N v0 = some r) : Pure Tryz.prog 146 [DV.agg (Gx.Clue.enc v0)] (DV.one (D.b r)) := by
  refine pure_of_walk Tryz.tok Tryz.mixed Tryz.func146 (by kernel_rfl) fun W => ?_
  unfold i_IsPuzzle_1 at h
  (refine avb ?_)
  (refine plb ?_);refine call_sel (E := fun (x : Bool) => DV.one (D.b x)) h (fun x1 h1 => (i_IsClue_ok N v0 h1)) (fun x1 hx1 h => ?_)
  (refine avb ?_)
  obtain rfl := some_in h
  (exact eq_by)

theorem g_slices_IndexFunc_Simpl_Clue_impl_Clue_ok0 (N : Nat) (v0 : List (Gx.Clue)) (v1 : (Gx.Clue) → Option Bool) (fv1 : FuncId) (hv1 : ∀ a0 r, v1 a0 = some r → Pure Tryz.prog fv1 [DV.agg (Gx.Clue.enc a0)] (DV.one (D.b r))) {r : Int} (h : g_slices_IndexFunc_Simpl_Clue_impl_Clue N v0 v1 = some r) : Pure Tryz.prog 170 [DV.one (D.sl 2 (List.map Gx.Clue.enc v0)), DV.fn fv1 []] (DV.one (D.i r)) := by
  refine pure_of_walk Tryz.tok Tryz.mixed Tryz.func170 (by kernel_rfl) fun W => ?_
  unfold g_slices_IndexFunc_Simpl_Clue_impl_Clue at h
  (refine ab0 ?_)
  refine W.r_seq ?_
  (refine ab0 ?_)
  obtain ⟨zt3, h, gt3⟩ := cutb_some h
  refine W.r_cut (fun (t3 : Unit) => ⟨[], [], 1000⟩) (fun t => .nx t = zt3) ?_ ?_
  · (refine avb ?_)
    refine len_sel (m := (v0.length : Int)) (by (first|rfl|simp [sub])) ?_
    (refine avb ?_)
    refine loop_lp (fun (p1 : Int) => ⟨[(0, .d (D.sl 2 (List.map Gx.Clue.enc v0))), (1, .fn fv1 []), (7, .d (D.i (v0.length : Int))), (8, .d (D.i p1))], [], 1000⟩) h ?_ ?_
    · (exact weak_by)
    intro np1 p1 yp1 h hfp1
    unfold g_slices_IndexFunc_Simpl_Clue_impl_Clue_L1 at h
    (refine avb ?_)
    refine br_sel h (fun _ h => ?_) (fun _ h => ?_)
    · (refine avb ?_)
      refine idx_sel h (fun x1 hx1 h => ?_)
      (refine avb ?_)
      (refine plb ?_);refine call_sel (E := fun (x : Bool) => DV.one (D.b x)) h (fun x2 h1 => (hv1 _ _ h1)) (fun x2 hx2 h => ?_)
      (refine avb ?_)
      refine br_sel h (fun _ h => ?_) (fun _ h => ?_)
      · (refine avb ?_)
        obtain rfl := some_in h
        have h : some _ = some _ := congrArg some (show _ = _ from hfp1)
        obtain rfl := some_in h
        have h : some _ = some _ := congrArg some (show _ = _ from gt3)
        obtain rfl := some_in h
        (exact eq_by)
      · (refine avb ?_)
        obtain rfl := some_in h
        refine loop_back hfp1 ?_
        (exact weak_by)
    · (refine avb ?_)
      obtain rfl := some_in h
      have h : some _ = some _ := congrArg some (show _ = _ from hfp1)
      refine cut_at (()) (some_in h) ?_
      (exact weak_by)
  rintro t3 rfl
  have h : _ = some _ := gt3
  (refine avb ?_)
  obtain rfl := some_in h
  (exact eq_by)

theorem g_slices_ContainsFunc_Simpl_Clue_impl_Clue_ok0 (N : Nat) (v0 : List (Gx.Clue)) (v1 : (Gx.Clue) → Option Bool) (fv1 : FuncId) (hv1 : ∀ a0 r, v1 a0 = some r → Pure Tryz.prog fv1 [DV.agg (Gx.Clue.enc a0)] (DV.one (D.b r))) {r : Bool} (h : g_slices_ContainsFunc_Simpl_Clue_impl_Clue N v0 v1 = some r) : Pure Tryz.prog 124 [DV.one (D.sl 2 (List.map Gx.Clue.enc v0)), DV.fn fv1 []] (DV.one (D.b r)) := by
  refine pure_of_walk Tryz.tok Tryz.mixed Tryz.func124 (by kernel_rfl) fun W => ?_
  unfold g_slices_ContainsFunc_Simpl_Clue_impl_Clue at h
  (refine avb ?_)
  (refine plb ?_);refine call_sel (E := fun (x : Int) => DV.one (D.i x)) h (fun x1 h1 => (g_slices_IndexFunc_Simpl_Clue_impl_Clue_ok0 N v0 v1 fv1 hv1 h1)) (fun x1 hx1 h => ?_)
  (refine avb ?_)
  obtain rfl := some_in h
  (exact eq_by)

theorem i_IsPuzzle_ok (N : Nat) (v0 : Gx.Puzzle) {r : Bool} (h : i_IsPuzzle N v0 = some r) : Pure Tryz.prog 92 [DV.agg (Gx.Puzzle.enc v0)] (DV.one (D.b r)) := by
  refine pure_of_walk Tryz.tok Tryz.mixed Tryz.func92 (by kernel_rfl) fun W => ?_
  unfold i_IsPuzzle at h
  (refine avb ?_)
  (refine plb ?_);refine call_sel (E := fun (x : Int) => DV.one (D.i x)) h (fun x1 h1 => (i_FormOf_ok N v0.mGrid h1)) (fun x1 hx1 h => ?_)
  (refine avb ?_)
  refine br_sel h (fun _ h => ?_) (fun _ h => ?_)
  · (refine avb ?_)
    obtain rfl := some_in h
    (exact eq_by)
  · (refine avb ?_)
    (refine plb ?_);refine call_sel (E := fun (x : (List (Gx.Slot))) => DV.one (D.sl 4 (List.map Gx.Slot.enc x))) h (fun x2 h1 => (i_SlotsOf_ok N v0.mGrid h1)) (fun x2 hx2 h => ?_)
    (refine avb ?_)
    refine len_sel (m := (x2.length : Int)) (by (first|rfl|simp [sub])) ?_
    (refine avb ?_)
    refine len_sel (m := (v0.mClues.length : Int)) (by (first|rfl|simp [sub])) ?_
    (refine avb ?_)
    refine br_sel h (fun _ h => ?_) (fun _ h => ?_)
    · (refine avb ?_)
      refine len_sel (m := (v0.mSeals.length : Int)) (by (first|rfl|simp [sub])) ?_
      (refine avb ?_)
      refine br_sel h (fun _ h => ?_) (fun _ h => ?_)
      · (refine avb ?_)
        (refine plb ?_);refine call_sel (E := fun (x : Bool) => DV.one (D.b x)) h (fun x3 h1 => (i_InRange_ok N v0.mSalt 1 9999 h1)) (fun x3 hx3 h => ?_)
        (refine avb ?_)
        refine br_sel h (fun _ h => ?_) (fun _ h => ?_)
        · (refine avb ?_)
          (refine plb ?_);refine call_sel (E := fun (x : Bool) => DV.one (D.b x)) h (fun x4 h1 => (g_slices_ContainsFunc_Simpl_Clue_impl_Clue_ok0 N v0.mClues (fun a0 => i_IsPuzzle_1 N a0) 146 (fun a0 _ hh => i_IsPuzzle_1_ok N a0 hh) h1)) (fun x4 hx4 h => ?_)
          (refine avb ?_)
          obtain rfl := some_in h
          (exact eq_by)
        · (refine avb ?_)
          obtain rfl := some_in h
          (exact eq_by)
      · (refine avb ?_)
        obtain rfl := some_in h
        (exact eq_by)
    · (refine avb ?_)
      obtain rfl := some_in h
      (exact eq_by)

theorem i_depth_B_ok (N : Nat) (r_i_depth : (List (Gx.Step)) → Int → Option (Int)) (hr_i_depth : ∀ a0 a1 r, r_i_depth a0 a1 = some r → Pure Tryz.prog 148 [DV.one (D.sl 4 (List.map Gx.Step.enc a0)), DV.one (D.i a1)] (DV.one (D.i r))) (v0 : List (Gx.Step)) (v1 : Int) {r : Int} (h : i_depth_B N r_i_depth v0 v1 = some r) : Pure Tryz.prog 148 [DV.one (D.sl 4 (List.map Gx.Step.enc v0)), DV.one (D.i v1)] (DV.one (D.i r)) := by
  refine pure_of_walk Tryz.tok Tryz.mixed Tryz.func148 (by kernel_rfl) fun W => ?_
  unfold i_depth_B at h
  (refine avb ?_)
  refine idx_sel h (fun x1 hx1 h => ?_)
  (refine avb ?_)
  refine br_sel h (fun _ h => ?_) (fun _ h => ?_)
  · (refine avb ?_)
    obtain rfl := some_in h
    (exact eq_by)
  · (refine avb ?_)
    (refine plb ?_);refine call_sel (E := fun (x : Bool) => DV.one (D.b x)) h (fun x2 h1 => (i_isPair_ok N x1.mKind h1)) (fun x2 hx2 h => ?_)
    (refine avb ?_)
    refine br_sel h (fun _ h => ?_) (fun _ h => ?_)
    · (refine avb ?_)
      (refine plb ?_);refine call_sel (E := fun (x : Int) => DV.one (D.i x)) h (fun x3 h1 => (hr_i_depth v0 x1.mA _ h1)) (fun x3 hx3 h => ?_)
      (refine avb ?_)
      (refine plb ?_);refine call_sel (E := fun (x : Int) => DV.one (D.i x)) h (fun x4 h1 => (hr_i_depth v0 x1.mB _ h1)) (fun x4 hx4 h => ?_)
      (refine avb ?_)
      obtain rfl := some_in h
      (exact eq_by)
    · (refine avb ?_)
      (refine plb ?_);refine call_sel (E := fun (x : Int) => DV.one (D.i x)) h (fun x5 h1 => (hr_i_depth v0 x1.mA _ h1)) (fun x5 hx5 h => ?_)
      (refine avb ?_)
      obtain rfl := some_in h
      (exact eq_by)

theorem i_depth_R_ok (N : Nat) : ∀ n : Nat, (∀ a0 a1 r, i_depth_R N n a0 a1 = some r → Pure Tryz.prog 148 [DV.one (D.sl 4 (List.map Gx.Step.enc a0)), DV.one (D.i a1)] (DV.one (D.i r)))
  | 0 => fun _ _ _ h => by simp [i_depth_R] at h
  | n + 1 => by
    have ih := i_depth_R_ok N n
    exact fun a0 a1 _ h => i_depth_B_ok N _ (ih) a0 a1 h

theorem i_depth_ok (N : Nat) (v0 : List (Gx.Step)) (v1 : Int) {r : Int} (h : i_depth N v0 v1 = some r) : Pure Tryz.prog 148 [DV.one (D.sl 4 (List.map Gx.Step.enc v0)), DV.one (D.i v1)] (DV.one (D.i r)) :=
  (i_depth_R_ok N N) v0 v1 _ h

theorem i_DepthOf_ok (N : Nat) (v0 : List (Gx.Step)) {r : Int} (h : i_DepthOf N v0 = some r) : Pure Tryz.prog 93 [DV.one (D.sl 4 (List.map Gx.Step.enc v0))] (DV.one (D.i r)) := by
  refine pure_of_walk Tryz.tok Tryz.mixed Tryz.func93 (by kernel_rfl) fun W => ?_
  unfold i_DepthOf at h
  (refine avb ?_)
  (refine plb ?_);refine call_sel (E := fun (x : Bool) => DV.one (D.b x)) h (fun x1 h1 => (i_IsPlay_ok N v0 h1)) (fun x1 hx1 h => ?_)
  (refine avb ?_)
  refine br_sel h (fun _ h => ?_) (fun _ h => ?_)
  · (refine avb ?_)
    obtain rfl := some_in h
    (exact eq_by)
  · (refine avb ?_)
    refine len_sel (m := (v0.length : Int)) (by (first|rfl|simp [sub])) ?_
    (refine avb ?_)
    (refine plb ?_);refine call_sel (E := fun (x : Int) => DV.one (D.i x)) h (fun x2 h1 => (i_depth_ok N v0 (w64 ((v0.length : Int) - 1)) h1)) (fun x2 hx2 h => ?_)
    (refine avb ?_)
    obtain rfl := some_in h
    (exact eq_by)

theorem i_HardOf_ok (N : Nat) (v0 : Gx.Puzzle) {r : Int} (h : i_HardOf N v0 = some r) : Pure Tryz.prog 38 [DV.agg (Gx.Puzzle.enc v0)] (DV.one (D.i r)) := by
  refine pure_of_walk Tryz.tok Tryz.mixed Tryz.func38 (by kernel_rfl) fun W => ?_
  unfold i_HardOf at h
  (refine avb ?_)
  (refine plb ?_);refine call_sel (E := fun (x : Bool) => DV.one (D.b x)) h (fun x1 h1 => (i_IsPuzzle_ok N v0 h1)) (fun x1 hx1 h => ?_)
  (refine avb ?_)
  refine br_sel h (fun _ h => ?_) (fun _ h => ?_)
  · (refine avb ?_)
    obtain rfl := some_in h
    (exact eq_by)
  · (refine ab0 ?_)
    refine W.r_seq ?_
    (refine ab0 ?_)
    obtain ⟨zt4, h, gt4⟩ := bnd_some h
    refine W.r_cut (fun (t4 : Int) => ⟨[(3, .d (D.i t4))], [], 1000⟩) (fun t => t = zt4) ?_ ?_
    · (refine avb ?_)
      refine len_sel (m := (v0.mClues.length : Int)) (by (first|rfl|simp [sub])) ?_
      (refine avb ?_)
      refine loop_lp (fun (p1 : Int × Int) => ⟨[(3, .d (D.i p1.1)), (10, .d (D.sl 2 (List.map Gx.Clue.enc v0.mClues))), (11, .d (D.i (v0.mClues.length : Int))), (12, .d (D.i p1.2))], [], 1000⟩) h ?_ ?_
      · (exact weak_by)
      intro np1 p1 yp1 h hfp1
      unfold i_HardOf_L1 at h
      (refine avb ?_)
      refine br_sel h (fun _ h => ?_) (fun _ h => ?_)
      · (refine avb ?_)
        refine idx_sel h (fun x2 hx2 h => ?_)
        (refine avb ?_)
        (refine plb ?_);refine call_sel (E := fun (x : Int) => DV.one (D.i x)) h (fun x3 h1 => (i_DepthOf_ok N x2.mPlay h1)) (fun x3 hx3 h => ?_)
        (refine avb ?_)
        obtain rfl := some_in h
        refine loop_back hfp1 ?_
        (exact weak_by)
      · (refine avb ?_)
        obtain rfl := some_in h
        have h : some _ = some _ := congrArg some (show _ = _ from hfp1)
        refine cut_at (p1.1) (some_in h) ?_
        (exact weak_by)
    rintro t4 rfl
    have h : _ = some _ := gt4
    (refine avb ?_)
    obtain rfl := some_in h
    (exact eq_by)

theorem i_IssueHard_ok (N : Nat) (v0 : Gx.House) (v1 : Int) {r : Int} (h : i_IssueHard N v0 v1 = some r) : Pure Tryz.prog 11 [DV.agg (Gx.House.enc v0), DV.one (D.i v1)] (DV.one (D.i r)) := by
  refine pure_of_walk Tryz.tok Tryz.mixed Tryz.func11 (by kernel_rfl) fun W => ?_
  unfold i_IssueHard at h
  (refine avb ?_)
  (refine plb ?_);refine call_sel (E := fun (x : Gx.Issue × Bool) => DV.tup [DV.agg (Gx.Issue.enc x.1), DV.one (D.b x.2)]) h (fun x1 h1 => (i_IssueOf_ok N v0 v1 h1)) (fun x1 hx1 h => ?_)
  (refine avb ?_)
  refine br_sel h (fun _ h => ?_) (fun _ h => ?_)
  · (refine avb ?_)
    obtain rfl := some_in h
    (exact eq_by)
  · (refine avb ?_)
    (refine plb ?_);refine call_sel (E := fun (x : Int) => DV.one (D.i x)) h (fun x2 h1 => (i_HardOf_ok N x1.1.mPuzzle h1)) (fun x2 hx2 h => ?_)
    (refine avb ?_)
    obtain rfl := some_in h
    (exact eq_by)

theorem l_eqListed_ok (N : Nat) (v0 : Gx.Listed) (v1 : Gx.Listed) {r : Bool} (h : l_eqListed N v0 v1 = some r) : Pure Tryz.prog 94 [DV.agg (Gx.Listed.enc v0), DV.agg (Gx.Listed.enc v1)] (DV.one (D.b r)) := by
  refine pure_of_walk Tryz.tok Tryz.mixed Tryz.func94 (by kernel_rfl) fun W => ?_
  unfold l_eqListed at h
  (refine avb ?_)
  refine br_sel h (fun _ h => ?_) (fun _ h => ?_)
  · (refine avb ?_)
    obtain rfl := some_in h
    (exact eq_by)
  · (refine avb ?_)
    refine br_sel h (fun _ h => ?_) (fun _ h => ?_)
    · (refine avb ?_)
      obtain rfl := some_in h
      (exact eq_by)
    · (refine avb ?_)
      refine br_sel h (fun _ h => ?_) (fun _ h => ?_)
      · (refine avb ?_)
        obtain rfl := some_in h
        (exact eq_by)
      · (refine avb ?_)
        refine br_sel h (fun _ h => ?_) (fun _ h => ?_)
        · (refine avb ?_)
          obtain rfl := some_in h
          (exact eq_by)
        · (refine avb ?_)
          obtain rfl := some_in h
          (exact eq_by)

theorem l_eqListedS_ok (N : Nat) (v0 : List (Gx.Listed)) (v1 : List (Gx.Listed)) {r : Bool} (h : l_eqListedS N v0 v1 = some r) : Pure Tryz.prog 39 [DV.one (D.sl 4 (List.map Gx.Listed.enc v0)), DV.one (D.sl 4 (List.map Gx.Listed.enc v1))] (DV.one (D.b r)) := by
  refine pure_of_walk Tryz.tok Tryz.mixed Tryz.func39 (by kernel_rfl) fun W => ?_
  unfold l_eqListedS at h
  (refine avb ?_)
  refine len_sel (m := (v0.length : Int)) (by (first|rfl|simp [sub])) ?_
  (refine avb ?_)
  refine len_sel (m := (v1.length : Int)) (by (first|rfl|simp [sub])) ?_
  (refine avb ?_)
  refine br_sel h (fun _ h => ?_) (fun _ h => ?_)
  · (refine avb ?_)
    obtain rfl := some_in h
    (exact eq_by)
  · (refine ab0 ?_)
    obtain ⟨zt4, h, gt4⟩ := cutb_some h
    refine W.r_cut (fun (t4 : Unit) => ⟨[], [], 1000⟩) (fun t => .nx t = zt4) ?_ ?_
    · (refine avb ?_)
      refine loop_lp (fun (p1 : Int) => ⟨[(0, .d (D.sl 4 (List.map Gx.Listed.enc v0))), (1, .d (D.sl 4 (List.map Gx.Listed.enc v1))), (5, .d (D.i p1))], [], 1000⟩) h ?_ ?_
      · (exact weak_by)
      intro np1 p1 yp1 h hfp1
      unfold l_eqListedS_L1 at h
      (refine avb ?_)
      refine len_sel (m := (v0.length : Int)) (by (first|rfl|simp [sub])) ?_
      (refine avb ?_)
      refine br_sel h (fun _ h => ?_) (fun _ h => ?_)
      · (refine avb ?_)
        refine idx_sel h (fun x1 hx1 h => ?_)
        (refine avb ?_)
        refine idx_sel h (fun x2 hx2 h => ?_)
        (refine avb ?_)
        (refine plb ?_);refine call_sel (E := fun (x : Bool) => DV.one (D.b x)) h (fun x3 h1 => (l_eqListed_ok N x1 x2 h1)) (fun x3 hx3 h => ?_)
        (refine avb ?_)
        refine br_sel h (fun _ h => ?_) (fun _ h => ?_)
        · (refine avb ?_)
          obtain rfl := some_in h
          have h : some _ = some _ := congrArg some (show _ = _ from hfp1)
          obtain rfl := some_in h
          have h : some _ = some _ := congrArg some (show _ = _ from gt4)
          obtain rfl := some_in h
          (exact eq_by)
        · (refine avb ?_)
          obtain rfl := some_in h
          refine loop_back hfp1 ?_
          (exact weak_by)
      · (refine avb ?_)
        obtain rfl := some_in h
        have h : some _ = some _ := congrArg some (show _ = _ from hfp1)
        refine cut_at (()) (some_in h) ?_
        (exact weak_by)
    rintro t4 rfl
    have h : _ = some _ := gt4
    (refine avb ?_)
    obtain rfl := some_in h
    (exact eq_by)

theorem l_eqMeaning_ok (N : Nat) (v0 : Gx.Meaning) (v1 : Gx.Meaning) {r : Bool} (h : l_eqMeaning N v0 v1 = some r) : Pure Tryz.prog 95 [DV.agg (Gx.Meaning.enc v0), DV.agg (Gx.Meaning.enc v1)] (DV.one (D.b r)) := by
  refine pure_of_walk Tryz.tok Tryz.mixed Tryz.func95 (by kernel_rfl) fun W => ?_
  unfold l_eqMeaning at h
  (refine avb ?_)
  refine br_sel h (fun _ h => ?_) (fun _ h => ?_)
  · (refine avb ?_)
    obtain rfl := some_in h
    (exact eq_by)
  · (refine avb ?_)
    refine br_sel h (fun _ h => ?_) (fun _ h => ?_)
    · (refine avb ?_)
      obtain rfl := some_in h
      (exact eq_by)
    · (refine avb ?_)
      obtain rfl := some_in h
      (exact eq_by)

theorem l_eqMeaningS_ok (N : Nat) (v0 : List (Gx.Meaning)) (v1 : List (Gx.Meaning)) {r : Bool} (h : l_eqMeaningS N v0 v1 = some r) : Pure Tryz.prog 40 [DV.one (D.sl 2 (List.map Gx.Meaning.enc v0)), DV.one (D.sl 2 (List.map Gx.Meaning.enc v1))] (DV.one (D.b r)) := by
  refine pure_of_walk Tryz.tok Tryz.mixed Tryz.func40 (by kernel_rfl) fun W => ?_
  unfold l_eqMeaningS at h
  (refine avb ?_)
  refine len_sel (m := (v0.length : Int)) (by (first|rfl|simp [sub])) ?_
  (refine avb ?_)
  refine len_sel (m := (v1.length : Int)) (by (first|rfl|simp [sub])) ?_
  (refine avb ?_)
  refine br_sel h (fun _ h => ?_) (fun _ h => ?_)
  · (refine avb ?_)
    obtain rfl := some_in h
    (exact eq_by)
  · (refine ab0 ?_)
    obtain ⟨zt4, h, gt4⟩ := cutb_some h
    refine W.r_cut (fun (t4 : Unit) => ⟨[], [], 1000⟩) (fun t => .nx t = zt4) ?_ ?_
    · (refine avb ?_)
      refine loop_lp (fun (p1 : Int) => ⟨[(0, .d (D.sl 2 (List.map Gx.Meaning.enc v0))), (1, .d (D.sl 2 (List.map Gx.Meaning.enc v1))), (5, .d (D.i p1))], [], 1000⟩) h ?_ ?_
      · (exact weak_by)
      intro np1 p1 yp1 h hfp1
      unfold l_eqMeaningS_L1 at h
      (refine avb ?_)
      refine len_sel (m := (v0.length : Int)) (by (first|rfl|simp [sub])) ?_
      (refine avb ?_)
      refine br_sel h (fun _ h => ?_) (fun _ h => ?_)
      · (refine avb ?_)
        refine idx_sel h (fun x1 hx1 h => ?_)
        (refine avb ?_)
        refine idx_sel h (fun x2 hx2 h => ?_)
        (refine avb ?_)
        (refine plb ?_);refine call_sel (E := fun (x : Bool) => DV.one (D.b x)) h (fun x3 h1 => (l_eqMeaning_ok N x1 x2 h1)) (fun x3 hx3 h => ?_)
        (refine avb ?_)
        refine br_sel h (fun _ h => ?_) (fun _ h => ?_)
        · (refine avb ?_)
          obtain rfl := some_in h
          have h : some _ = some _ := congrArg some (show _ = _ from hfp1)
          obtain rfl := some_in h
          have h : some _ = some _ := congrArg some (show _ = _ from gt4)
          obtain rfl := some_in h
          (exact eq_by)
        · (refine avb ?_)
          obtain rfl := some_in h
          refine loop_back hfp1 ?_
          (exact weak_by)
      · (refine avb ?_)
        obtain rfl := some_in h
        have h : some _ = some _ := congrArg some (show _ = _ from hfp1)
        refine cut_at (()) (some_in h) ?_
        (exact weak_by)
    rintro t4 rfl
    have h : _ = some _ := gt4
    (refine avb ?_)
    obtain rfl := some_in h
    (exact eq_by)

theorem l_eqGrid_ok (N : Nat) (v0 : Gx.Grid) (v1 : Gx.Grid) {r : Bool} (h : l_eqGrid N v0 v1 = some r) : Pure Tryz.prog 96 [DV.agg (Gx.Grid.enc v0), DV.agg (Gx.Grid.enc v1)] (DV.one (D.b r)) := by
  refine pure_of_walk Tryz.tok Tryz.mixed Tryz.func96 (by kernel_rfl) fun W => ?_
  unfold l_eqGrid at h
  (refine avb ?_)
  refine br_sel h (fun _ h => ?_) (fun _ h => ?_)
  · (refine avb ?_)
    obtain rfl := some_in h
    (exact eq_by)
  · (refine avb ?_)
    refine br_sel h (fun _ h => ?_) (fun _ h => ?_)
    · (refine avb ?_)
      obtain rfl := some_in h
      (exact eq_by)
    · (refine avb ?_)
      refine br_sel h (fun _ h => ?_) (fun _ h => ?_)
      · (refine avb ?_)
        obtain rfl := some_in h
        (exact eq_by)
      · (refine avb ?_)
        obtain rfl := some_in h
        (exact eq_by)

theorem l_eqStep_ok (N : Nat) (v0 : Gx.Step) (v1 : Gx.Step) {r : Bool} (h : l_eqStep N v0 v1 = some r) : Pure Tryz.prog 220 [DV.agg (Gx.Step.enc v0), DV.agg (Gx.Step.enc v1)] (DV.one (D.b r)) := by
  refine pure_of_walk Tryz.tok Tryz.mixed Tryz.func220 (by kernel_rfl) fun W => ?_
  unfold l_eqStep at h
  (refine avb ?_)
  refine br_sel h (fun _ h => ?_) (fun _ h => ?_)
  · (refine avb ?_)
    obtain rfl := some_in h
    (exact eq_by)
  · (refine avb ?_)
    refine br_sel h (fun _ h => ?_) (fun _ h => ?_)
    · (refine avb ?_)
      obtain rfl := some_in h
      (exact eq_by)
    · (refine avb ?_)
      refine br_sel h (fun _ h => ?_) (fun _ h => ?_)
      · (refine avb ?_)
        obtain rfl := some_in h
        (exact eq_by)
      · (refine avb ?_)
        refine br_sel h (fun _ h => ?_) (fun _ h => ?_)
        · (refine avb ?_)
          obtain rfl := some_in h
          (exact eq_by)
        · (refine avb ?_)
          obtain rfl := some_in h
          (exact eq_by)

theorem l_eqStepS_ok (N : Nat) (v0 : List (Gx.Step)) (v1 : List (Gx.Step)) {r : Bool} (h : l_eqStepS N v0 v1 = some r) : Pure Tryz.prog 188 [DV.one (D.sl 4 (List.map Gx.Step.enc v0)), DV.one (D.sl 4 (List.map Gx.Step.enc v1))] (DV.one (D.b r)) := by
  refine pure_of_walk Tryz.tok Tryz.mixed Tryz.func188 (by kernel_rfl) fun W => ?_
  unfold l_eqStepS at h
  (refine avb ?_)
  refine len_sel (m := (v0.length : Int)) (by (first|rfl|simp [sub])) ?_
  (refine avb ?_)
  refine len_sel (m := (v1.length : Int)) (by (first|rfl|simp [sub])) ?_
  (refine avb ?_)
  refine br_sel h (fun _ h => ?_) (fun _ h => ?_)
  · (refine avb ?_)
    obtain rfl := some_in h
    (exact eq_by)
  · (refine ab0 ?_)
    obtain ⟨zt4, h, gt4⟩ := cutb_some h
    refine W.r_cut (fun (t4 : Unit) => ⟨[], [], 1000⟩) (fun t => .nx t = zt4) ?_ ?_
    · (refine avb ?_)
      refine loop_lp (fun (p1 : Int) => ⟨[(0, .d (D.sl 4 (List.map Gx.Step.enc v0))), (1, .d (D.sl 4 (List.map Gx.Step.enc v1))), (5, .d (D.i p1))], [], 1000⟩) h ?_ ?_
      · (exact weak_by)
      intro np1 p1 yp1 h hfp1
      unfold l_eqStepS_L1 at h
      (refine avb ?_)
      refine len_sel (m := (v0.length : Int)) (by (first|rfl|simp [sub])) ?_
      (refine avb ?_)
      refine br_sel h (fun _ h => ?_) (fun _ h => ?_)
      · (refine avb ?_)
        refine idx_sel h (fun x1 hx1 h => ?_)
        (refine avb ?_)
        refine idx_sel h (fun x2 hx2 h => ?_)
        (refine avb ?_)
        (refine plb ?_);refine call_sel (E := fun (x : Bool) => DV.one (D.b x)) h (fun x3 h1 => (l_eqStep_ok N x1 x2 h1)) (fun x3 hx3 h => ?_)
        (refine avb ?_)
        refine br_sel h (fun _ h => ?_) (fun _ h => ?_)
        · (refine avb ?_)
          obtain rfl := some_in h
          have h : some _ = some _ := congrArg some (show _ = _ from hfp1)
          obtain rfl := some_in h
          have h : some _ = some _ := congrArg some (show _ = _ from gt4)
          obtain rfl := some_in h
          (exact eq_by)
        · (refine avb ?_)
          obtain rfl := some_in h
          refine loop_back hfp1 ?_
          (exact weak_by)
      · (refine avb ?_)
        obtain rfl := some_in h
        have h : some _ = some _ := congrArg some (show _ = _ from hfp1)
        refine cut_at (()) (some_in h) ?_
        (exact weak_by)
    rintro t4 rfl
    have h : _ = some _ := gt4
    (refine avb ?_)
    obtain rfl := some_in h
    (exact eq_by)

theorem l_eqClue_ok (N : Nat) (v0 : Gx.Clue) (v1 : Gx.Clue) {r : Bool} (h : l_eqClue N v0 v1 = some r) : Pure Tryz.prog 149 [DV.agg (Gx.Clue.enc v0), DV.agg (Gx.Clue.enc v1)] (DV.one (D.b r)) := by
  refine pure_of_walk Tryz.tok Tryz.mixed Tryz.func149 (by kernel_rfl) fun W => ?_
  unfold l_eqClue at h
  (refine avb ?_)
  refine br_sel h (fun _ h => ?_) (fun _ h => ?_)
  · (refine avb ?_)
    obtain rfl := some_in h
    (exact eq_by)
  · (refine avb ?_)
    (refine plb ?_);refine call_sel (E := fun (x : Bool) => DV.one (D.b x)) h (fun x1 h1 => (l_eqStepS_ok N v0.mPlay v1.mPlay h1)) (fun x1 hx1 h => ?_)
    (refine avb ?_)
    refine br_sel h (fun _ h => ?_) (fun _ h => ?_)
    · (refine avb ?_)
      obtain rfl := some_in h
      (exact eq_by)
    · (refine avb ?_)
      obtain rfl := some_in h
      (exact eq_by)

theorem l_eqClueS_ok (N : Nat) (v0 : List (Gx.Clue)) (v1 : List (Gx.Clue)) {r : Bool} (h : l_eqClueS N v0 v1 = some r) : Pure Tryz.prog 97 [DV.one (D.sl 2 (List.map Gx.Clue.enc v0)), DV.one (D.sl 2 (List.map Gx.Clue.enc v1))] (DV.one (D.b r)) := by
  refine pure_of_walk Tryz.tok Tryz.mixed Tryz.func97 (by kernel_rfl) fun W => ?_
  unfold l_eqClueS at h
  (refine avb ?_)
  refine len_sel (m := (v0.length : Int)) (by (first|rfl|simp [sub])) ?_
  (refine avb ?_)
  refine len_sel (m := (v1.length : Int)) (by (first|rfl|simp [sub])) ?_
  (refine avb ?_)
  refine br_sel h (fun _ h => ?_) (fun _ h => ?_)
  · (refine avb ?_)
    obtain rfl := some_in h
    (exact eq_by)
  · (refine ab0 ?_)
    obtain ⟨zt4, h, gt4⟩ := cutb_some h
    refine W.r_cut (fun (t4 : Unit) => ⟨[], [], 1000⟩) (fun t => .nx t = zt4) ?_ ?_
    · (refine avb ?_)
      refine loop_lp (fun (p1 : Int) => ⟨[(0, .d (D.sl 2 (List.map Gx.Clue.enc v0))), (1, .d (D.sl 2 (List.map Gx.Clue.enc v1))), (5, .d (D.i p1))], [], 1000⟩) h ?_ ?_
      · (exact weak_by)
      intro np1 p1 yp1 h hfp1
      unfold l_eqClueS_L1 at h
      (refine avb ?_)
      refine len_sel (m := (v0.length : Int)) (by (first|rfl|simp [sub])) ?_
      (refine avb ?_)
      refine br_sel h (fun _ h => ?_) (fun _ h => ?_)
      · (refine avb ?_)
        refine idx_sel h (fun x1 hx1 h => ?_)
        (refine avb ?_)
        refine idx_sel h (fun x2 hx2 h => ?_)
        (refine avb ?_)
        (refine plb ?_);refine call_sel (E := fun (x : Bool) => DV.one (D.b x)) h (fun x3 h1 => (l_eqClue_ok N x1 x2 h1)) (fun x3 hx3 h => ?_)
        (refine avb ?_)
        refine br_sel h (fun _ h => ?_) (fun _ h => ?_)
        · (refine avb ?_)
          obtain rfl := some_in h
          have h : some _ = some _ := congrArg some (show _ = _ from hfp1)
          obtain rfl := some_in h
          have h : some _ = some _ := congrArg some (show _ = _ from gt4)
          obtain rfl := some_in h
          (exact eq_by)
        · (refine avb ?_)
          obtain rfl := some_in h
          refine loop_back hfp1 ?_
          (exact weak_by)
      · (refine avb ?_)
        obtain rfl := some_in h
        have h : some _ = some _ := congrArg some (show _ = _ from hfp1)
        refine cut_at (()) (some_in h) ?_
        (exact weak_by)
    rintro t4 rfl
    have h : _ = some _ := gt4
    (refine avb ?_)
    obtain rfl := some_in h
    (exact eq_by)

theorem l_eqDraft_ok (N : Nat) (v0 : Gx.Draft) (v1 : Gx.Draft) {r : Bool} (h : l_eqDraft N v0 v1 = some r) : Pure Tryz.prog 41 [DV.agg (Gx.Draft.enc v0), DV.agg (Gx.Draft.enc v1)] (DV.one (D.b r)) := by
  refine pure_of_walk Tryz.tok Tryz.mixed Tryz.func41 (by kernel_rfl) fun W => ?_
  unfold l_eqDraft at h
  (refine avb ?_)
  (refine plb ?_);refine call_sel (E := fun (x : Bool) => DV.one (D.b x)) h (fun x1 h1 => (l_eqGrid_ok N v0.mGrid v1.mGrid h1)) (fun x1 hx1 h => ?_)
  (refine avb ?_)
  refine br_sel h (fun _ h => ?_) (fun _ h => ?_)
  · (refine avb ?_)
    obtain rfl := some_in h
    (exact eq_by)
  · (refine avb ?_)
    refine br_sel h (fun _ h => ?_) (fun _ h => ?_)
    · (refine avb ?_)
      obtain rfl := some_in h
      (exact eq_by)
    · (refine avb ?_)
      (refine plb ?_);refine call_sel (E := fun (x : Bool) => DV.one (D.b x)) h (fun x2 h1 => (l_eqClueS_ok N v0.mClues v1.mClues h1)) (fun x2 hx2 h => ?_)
      (refine avb ?_)
      refine br_sel h (fun _ h => ?_) (fun _ h => ?_)
      · (refine avb ?_)
        obtain rfl := some_in h
        (exact eq_by)
      · (refine avb ?_)
        refine br_sel h (fun _ h => ?_) (fun _ h => ?_)
        · (refine avb ?_)
          obtain rfl := some_in h
          (exact eq_by)
        · (refine avb ?_)
          obtain rfl := some_in h
          (exact eq_by)

theorem l_eqIntS_ok (N : Nat) (v0 : List (Int)) (v1 : List (Int)) {r : Bool} (h : l_eqIntS N v0 v1 = some r) : Pure Tryz.prog 189 [DV.one (D.sl 1 (List.map Gx.encI v0)), DV.one (D.sl 1 (List.map Gx.encI v1))] (DV.one (D.b r)) := by
  refine pure_of_walk Tryz.tok Tryz.mixed Tryz.func189 (by kernel_rfl) fun W => ?_
  unfold l_eqIntS at h
  (refine avb ?_)
  refine len_sel (m := (v0.length : Int)) (by (first|rfl|simp [sub])) ?_
  (refine avb ?_)
  refine len_sel (m := (v1.length : Int)) (by (first|rfl|simp [sub])) ?_
  (refine avb ?_)
  refine br_sel h (fun _ h => ?_) (fun _ h => ?_)
  · (refine avb ?_)
    obtain rfl := some_in h
    (exact eq_by)
  · (refine ab0 ?_)
    obtain ⟨zt3, h, gt3⟩ := cutb_some h
    refine W.r_cut (fun (t3 : Unit) => ⟨[], [], 1000⟩) (fun t => .nx t = zt3) ?_ ?_
    · (refine avb ?_)
      refine loop_lp (fun (p1 : Int) => ⟨[(0, .d (D.sl 1 (List.map Gx.encI v0))), (1, .d (D.sl 1 (List.map Gx.encI v1))), (5, .d (D.i p1))], [], 1000⟩) h ?_ ?_
      · (exact weak_by)
      intro np1 p1 yp1 h hfp1
      unfold l_eqIntS_L1 at h
      (refine avb ?_)
      refine len_sel (m := (v0.length : Int)) (by (first|rfl|simp [sub])) ?_
      (refine avb ?_)
      refine br_sel h (fun _ h => ?_) (fun _ h => ?_)
      · (refine avb ?_)
        refine idx_sel h (fun x1 hx1 h => ?_)
        (refine avb ?_)
        refine idx_sel h (fun x2 hx2 h => ?_)
        (refine avb ?_)
        refine br_sel h (fun _ h => ?_) (fun _ h => ?_)
        · (refine avb ?_)
          obtain rfl := some_in h
          have h : some _ = some _ := congrArg some (show _ = _ from hfp1)
          obtain rfl := some_in h
          have h : some _ = some _ := congrArg some (show _ = _ from gt3)
          obtain rfl := some_in h
          (exact eq_by)
        · (refine avb ?_)
          obtain rfl := some_in h
          refine loop_back hfp1 ?_
          (exact weak_by)
      · (refine avb ?_)
        obtain rfl := some_in h
        have h : some _ = some _ := congrArg some (show _ = _ from hfp1)
        refine cut_at (()) (some_in h) ?_
        (exact weak_by)
    rintro t3 rfl
    have h : _ = some _ := gt3
    (refine avb ?_)
    obtain rfl := some_in h
    (exact eq_by)

theorem l_eqPuzzle_ok (N : Nat) (v0 : Gx.Puzzle) (v1 : Gx.Puzzle) {r : Bool} (h : l_eqPuzzle N v0 v1 = some r) : Pure Tryz.prog 150 [DV.agg (Gx.Puzzle.enc v0), DV.agg (Gx.Puzzle.enc v1)] (DV.one (D.b r)) := by
  refine pure_of_walk Tryz.tok Tryz.mixed Tryz.func150 (by kernel_rfl) fun W => ?_
  unfold l_eqPuzzle at h
  (refine avb ?_)
  (refine plb ?_);refine call_sel (E := fun (x : Bool) => DV.one (D.b x)) h (fun x1 h1 => (l_eqGrid_ok N v0.mGrid v1.mGrid h1)) (fun x1 hx1 h => ?_)
  (refine avb ?_)
  refine br_sel h (fun _ h => ?_) (fun _ h => ?_)
  · (refine avb ?_)
    obtain rfl := some_in h
    (exact eq_by)
  · (refine avb ?_)
    (refine plb ?_);refine call_sel (E := fun (x : Bool) => DV.one (D.b x)) h (fun x2 h1 => (l_eqClueS_ok N v0.mClues v1.mClues h1)) (fun x2 hx2 h => ?_)
    (refine avb ?_)
    refine br_sel h (fun _ h => ?_) (fun _ h => ?_)
    · (refine avb ?_)
      obtain rfl := some_in h
      (exact eq_by)
    · (refine avb ?_)
      (refine plb ?_);refine call_sel (E := fun (x : Bool) => DV.one (D.b x)) h (fun x3 h1 => (l_eqIntS_ok N v0.mSeals v1.mSeals h1)) (fun x3 hx3 h => ?_)
      (refine avb ?_)
      refine br_sel h (fun _ h => ?_) (fun _ h => ?_)
      · (refine avb ?_)
        obtain rfl := some_in h
        (exact eq_by)
      · (refine avb ?_)
        refine br_sel h (fun _ h => ?_) (fun _ h => ?_)
        · (refine avb ?_)
          obtain rfl := some_in h
          (exact eq_by)
        · (refine avb ?_)
          obtain rfl := some_in h
          (exact eq_by)

theorem l_eqIssue_ok (N : Nat) (v0 : Gx.Issue) (v1 : Gx.Issue) {r : Bool} (h : l_eqIssue N v0 v1 = some r) : Pure Tryz.prog 98 [DV.agg (Gx.Issue.enc v0), DV.agg (Gx.Issue.enc v1)] (DV.one (D.b r)) := by
  refine pure_of_walk Tryz.tok Tryz.mixed Tryz.func98 (by kernel_rfl) fun W => ?_
  unfold l_eqIssue at h
  (refine avb ?_)
  refine br_sel h (fun _ h => ?_) (fun _ h => ?_)
  · (refine avb ?_)
    obtain rfl := some_in h
    (exact eq_by)
  · (refine avb ?_)
    (refine plb ?_);refine call_sel (E := fun (x : Bool) => DV.one (D.b x)) h (fun x1 h1 => (l_eqPuzzle_ok N v0.mPuzzle v1.mPuzzle h1)) (fun x1 hx1 h => ?_)
    (refine avb ?_)
    refine br_sel h (fun _ h => ?_) (fun _ h => ?_)
    · (refine avb ?_)
      obtain rfl := some_in h
      (exact eq_by)
    · (refine avb ?_)
      refine br_sel h (fun _ h => ?_) (fun _ h => ?_)
      · (refine avb ?_)
        obtain rfl := some_in h
        (exact eq_by)
      · (refine avb ?_)
        refine br_sel h (fun _ h => ?_) (fun _ h => ?_)
        · (refine avb ?_)
          obtain rfl := some_in h
          (exact eq_by)
        · (refine avb ?_)
          refine br_sel h (fun _ h => ?_) (fun _ h => ?_)
          · (refine avb ?_)
            obtain rfl := some_in h
            (exact eq_by)
          · (refine avb ?_)
            obtain rfl := some_in h
            (exact eq_by)

theorem l_eqIssueS_ok (N : Nat) (v0 : List (Gx.Issue)) (v1 : List (Gx.Issue)) {r : Bool} (h : l_eqIssueS N v0 v1 = some r) : Pure Tryz.prog 42 [DV.one (D.sl 10 (List.map Gx.Issue.enc v0)), DV.one (D.sl 10 (List.map Gx.Issue.enc v1))] (DV.one (D.b r)) := by
  refine pure_of_walk Tryz.tok Tryz.mixed Tryz.func42 (by kernel_rfl) fun W => ?_
  unfold l_eqIssueS at h
  (refine avb ?_)
  refine len_sel (m := (v0.length : Int)) (by (first|rfl|simp [sub])) ?_
  (refine avb ?_)
  refine len_sel (m := (v1.length : Int)) (by (first|rfl|simp [sub])) ?_
  (refine avb ?_)
  refine br_sel h (fun _ h => ?_) (fun _ h => ?_)
  · (refine avb ?_)
    obtain rfl := some_in h
    (exact eq_by)
  · (refine ab0 ?_)
    obtain ⟨zt4, h, gt4⟩ := cutb_some h
    refine W.r_cut (fun (t4 : Unit) => ⟨[], [], 1000⟩) (fun t => .nx t = zt4) ?_ ?_
    · (refine avb ?_)
      refine loop_lp (fun (p1 : Int) => ⟨[(0, .d (D.sl 10 (List.map Gx.Issue.enc v0))), (1, .d (D.sl 10 (List.map Gx.Issue.enc v1))), (5, .d (D.i p1))], [], 1000⟩) h ?_ ?_
      · (exact weak_by)
      intro np1 p1 yp1 h hfp1
      unfold l_eqIssueS_L1 at h
      (refine avb ?_)
      refine len_sel (m := (v0.length : Int)) (by (first|rfl|simp [sub])) ?_
      (refine avb ?_)
      refine br_sel h (fun _ h => ?_) (fun _ h => ?_)
      · (refine avb ?_)
        refine idx_sel h (fun x1 hx1 h => ?_)
        (refine avb ?_)
        refine idx_sel h (fun x2 hx2 h => ?_)
        (refine avb ?_)
        (refine plb ?_);refine call_sel (E := fun (x : Bool) => DV.one (D.b x)) h (fun x3 h1 => (l_eqIssue_ok N x1 x2 h1)) (fun x3 hx3 h => ?_)
        (refine avb ?_)
        refine br_sel h (fun _ h => ?_) (fun _ h => ?_)
        · (refine avb ?_)
          obtain rfl := some_in h
          have h : some _ = some _ := congrArg some (show _ = _ from hfp1)
          obtain rfl := some_in h
          have h : some _ = some _ := congrArg some (show _ = _ from gt4)
          obtain rfl := some_in h
          (exact eq_by)
        · (refine avb ?_)
          obtain rfl := some_in h
          refine loop_back hfp1 ?_
          (exact weak_by)
      · (refine avb ?_)
        obtain rfl := some_in h
        have h : some _ = some _ := congrArg some (show _ = _ from hfp1)
        refine cut_at (()) (some_in h) ?_
        (exact weak_by)
    rintro t4 rfl
    have h : _ = some _ := gt4
    (refine avb ?_)
    obtain rfl := some_in h
    (exact eq_by)

theorem l_eqUsed_ok (N : Nat) (v0 : Gx.Used) (v1 : Gx.Used) {r : Bool} (h : l_eqUsed N v0 v1 = some r) : Pure Tryz.prog 99 [DV.agg (Gx.Used.enc v0), DV.agg (Gx.Used.enc v1)] (DV.one (D.b r)) := by
  refine pure_of_walk Tryz.tok Tryz.mixed Tryz.func99 (by kernel_rfl) fun W => ?_
  unfold l_eqUsed at h
  (refine avb ?_)
  refine br_sel h (fun _ h => ?_) (fun _ h => ?_)
  · (refine avb ?_)
    obtain rfl := some_in h
    (exact eq_by)
  · (refine avb ?_)
    refine br_sel h (fun _ h => ?_) (fun _ h => ?_)
    · (refine avb ?_)
      obtain rfl := some_in h
      (exact eq_by)
    · (refine avb ?_)
      obtain rfl := some_in h
      (exact eq_by)

theorem l_eqUsedS_ok (N : Nat) (v0 : List (Gx.Used)) (v1 : List (Gx.Used)) {r : Bool} (h : l_eqUsedS N v0 v1 = some r) : Pure Tryz.prog 43 [DV.one (D.sl 2 (List.map Gx.Used.enc v0)), DV.one (D.sl 2 (List.map Gx.Used.enc v1))] (DV.one (D.b r)) := by
  refine pure_of_walk Tryz.tok Tryz.mixed Tryz.func43 (by kernel_rfl) fun W => ?_
  unfold l_eqUsedS at h
  (refine avb ?_)
  refine len_sel (m := (v0.length : Int)) (by (first|rfl|simp [sub])) ?_
  (refine avb ?_)
  refine len_sel (m := (v1.length : Int)) (by (first|rfl|simp [sub])) ?_
  (refine avb ?_)
  refine br_sel h (fun _ h => ?_) (fun _ h => ?_)
  · (refine avb ?_)
    obtain rfl := some_in h
    (exact eq_by)
  · (refine ab0 ?_)
    obtain ⟨zt4, h, gt4⟩ := cutb_some h
    refine W.r_cut (fun (t4 : Unit) => ⟨[], [], 1000⟩) (fun t => .nx t = zt4) ?_ ?_
    · (refine avb ?_)
      refine loop_lp (fun (p1 : Int) => ⟨[(0, .d (D.sl 2 (List.map Gx.Used.enc v0))), (1, .d (D.sl 2 (List.map Gx.Used.enc v1))), (5, .d (D.i p1))], [], 1000⟩) h ?_ ?_
      · (exact weak_by)
      intro np1 p1 yp1 h hfp1
      unfold l_eqUsedS_L1 at h
      (refine avb ?_)
      refine len_sel (m := (v0.length : Int)) (by (first|rfl|simp [sub])) ?_
      (refine avb ?_)
      refine br_sel h (fun _ h => ?_) (fun _ h => ?_)
      · (refine avb ?_)
        refine idx_sel h (fun x1 hx1 h => ?_)
        (refine avb ?_)
        refine idx_sel h (fun x2 hx2 h => ?_)
        (refine avb ?_)
        (refine plb ?_);refine call_sel (E := fun (x : Bool) => DV.one (D.b x)) h (fun x3 h1 => (l_eqUsed_ok N x1 x2 h1)) (fun x3 hx3 h => ?_)
        (refine avb ?_)
        refine br_sel h (fun _ h => ?_) (fun _ h => ?_)
        · (refine avb ?_)
          obtain rfl := some_in h
          have h : some _ = some _ := congrArg some (show _ = _ from hfp1)
          obtain rfl := some_in h
          have h : some _ = some _ := congrArg some (show _ = _ from gt4)
          obtain rfl := some_in h
          (exact eq_by)
        · (refine avb ?_)
          obtain rfl := some_in h
          refine loop_back hfp1 ?_
          (exact weak_by)
      · (refine avb ?_)
        obtain rfl := some_in h
        have h : some _ = some _ := congrArg some (show _ = _ from hfp1)
        refine cut_at (()) (some_in h) ?_
        (exact weak_by)
    rintro t4 rfl
    have h : _ = some _ := gt4
    (refine avb ?_)
    obtain rfl := some_in h
    (exact eq_by)

theorem l_eqCorrection_ok (N : Nat) (v0 : Gx.Correction) (v1 : Gx.Correction) {r : Bool} (h : l_eqCorrection N v0 v1 = some r) : Pure Tryz.prog 100 [DV.agg (Gx.Correction.enc v0), DV.agg (Gx.Correction.enc v1)] (DV.one (D.b r)) := by
  refine pure_of_walk Tryz.tok Tryz.mixed Tryz.func100 (by kernel_rfl) fun W => ?_
  unfold l_eqCorrection at h
  (refine avb ?_)
  refine br_sel h (fun _ h => ?_) (fun _ h => ?_)
  · (refine avb ?_)
    obtain rfl := some_in h
    (exact eq_by)
  · (refine avb ?_)
    refine br_sel h (fun _ h => ?_) (fun _ h => ?_)
    · (refine avb ?_)
      obtain rfl := some_in h
      (exact eq_by)
    · (refine avb ?_)
      (refine plb ?_);refine call_sel (E := fun (x : Bool) => DV.one (D.b x)) h (fun x1 h1 => (l_eqClue_ok N v0.mClue v1.mClue h1)) (fun x1 hx1 h => ?_)
      (refine avb ?_)
      refine br_sel h (fun _ h => ?_) (fun _ h => ?_)
      · (refine avb ?_)
        obtain rfl := some_in h
        (exact eq_by)
      · (refine avb ?_)
        refine br_sel h (fun _ h => ?_) (fun _ h => ?_)
        · (refine avb ?_)
          obtain rfl := some_in h
          (exact eq_by)
        · (refine avb ?_)
          obtain rfl := some_in h
          (exact eq_by)

theorem l_eqCorrectionS_ok (N : Nat) (v0 : List (Gx.Correction)) (v1 : List (Gx.Correction)) {r : Bool} (h : l_eqCorrectionS N v0 v1 = some r) : Pure Tryz.prog 44 [DV.one (D.sl 5 (List.map Gx.Correction.enc v0)), DV.one (D.sl 5 (List.map Gx.Correction.enc v1))] (DV.one (D.b r)) := by
  refine pure_of_walk Tryz.tok Tryz.mixed Tryz.func44 (by kernel_rfl) fun W => ?_
  unfold l_eqCorrectionS at h
  (refine avb ?_)
  refine len_sel (m := (v0.length : Int)) (by (first|rfl|simp [sub])) ?_
  (refine avb ?_)
  refine len_sel (m := (v1.length : Int)) (by (first|rfl|simp [sub])) ?_
  (refine avb ?_)
  refine br_sel h (fun _ h => ?_) (fun _ h => ?_)
  · (refine avb ?_)
    obtain rfl := some_in h
    (exact eq_by)
  · (refine ab0 ?_)
    obtain ⟨zt4, h, gt4⟩ := cutb_some h
    refine W.r_cut (fun (t4 : Unit) => ⟨[], [], 1000⟩) (fun t => .nx t = zt4) ?_ ?_
    · (refine avb ?_)
      refine loop_lp (fun (p1 : Int) => ⟨[(0, .d (D.sl 5 (List.map Gx.Correction.enc v0))), (1, .d (D.sl 5 (List.map Gx.Correction.enc v1))), (5, .d (D.i p1))], [], 1000⟩) h ?_ ?_
      · (exact weak_by)
      intro np1 p1 yp1 h hfp1
      unfold l_eqCorrectionS_L1 at h
      (refine avb ?_)
      refine len_sel (m := (v0.length : Int)) (by (first|rfl|simp [sub])) ?_
      (refine avb ?_)
      refine br_sel h (fun _ h => ?_) (fun _ h => ?_)
      · (refine avb ?_)
        refine idx_sel h (fun x1 hx1 h => ?_)
        (refine avb ?_)
        refine idx_sel h (fun x2 hx2 h => ?_)
        (refine avb ?_)
        (refine plb ?_);refine call_sel (E := fun (x : Bool) => DV.one (D.b x)) h (fun x3 h1 => (l_eqCorrection_ok N x1 x2 h1)) (fun x3 hx3 h => ?_)
        (refine avb ?_)
        refine br_sel h (fun _ h => ?_) (fun _ h => ?_)
        · (refine avb ?_)
          obtain rfl := some_in h
          have h : some _ = some _ := congrArg some (show _ = _ from hfp1)
          obtain rfl := some_in h
          have h : some _ = some _ := congrArg some (show _ = _ from gt4)
          obtain rfl := some_in h
          (exact eq_by)
        · (refine avb ?_)
          obtain rfl := some_in h
          refine loop_back hfp1 ?_
          (exact weak_by)
      · (refine avb ?_)
        obtain rfl := some_in h
        have h : some _ = some _ := congrArg some (show _ = _ from hfp1)
        refine cut_at (()) (some_in h) ?_
        (exact weak_by)
    rintro t4 rfl
    have h : _ = some _ := gt4
    (refine avb ?_)
    obtain rfl := some_in h
    (exact eq_by)

theorem l_eqEntry_ok (N : Nat) (v0 : Gx.Entry) (v1 : Gx.Entry) {r : Bool} (h : l_eqEntry N v0 v1 = some r) : Pure Tryz.prog 101 [DV.agg (Gx.Entry.enc v0), DV.agg (Gx.Entry.enc v1)] (DV.one (D.b r)) := by
  refine pure_of_walk Tryz.tok Tryz.mixed Tryz.func101 (by kernel_rfl) fun W => ?_
  unfold l_eqEntry at h
  (refine avb ?_)
  refine br_sel h (fun _ h => ?_) (fun _ h => ?_)
  · (refine avb ?_)
    obtain rfl := some_in h
    (exact eq_by)
  · (refine avb ?_)
    refine br_sel h (fun _ h => ?_) (fun _ h => ?_)
    · (refine avb ?_)
      obtain rfl := some_in h
      (exact eq_by)
    · (refine avb ?_)
      refine br_sel h (fun _ h => ?_) (fun _ h => ?_)
      · (refine avb ?_)
        obtain rfl := some_in h
        (exact eq_by)
      · (refine avb ?_)
        refine br_sel h (fun _ h => ?_) (fun _ h => ?_)
        · (refine avb ?_)
          obtain rfl := some_in h
          (exact eq_by)
        · (refine avb ?_)
          obtain rfl := some_in h
          (exact eq_by)

theorem l_eqEntryS_ok (N : Nat) (v0 : List (Gx.Entry)) (v1 : List (Gx.Entry)) {r : Bool} (h : l_eqEntryS N v0 v1 = some r) : Pure Tryz.prog 45 [DV.one (D.sl 4 (List.map Gx.Entry.enc v0)), DV.one (D.sl 4 (List.map Gx.Entry.enc v1))] (DV.one (D.b r)) := by
  refine pure_of_walk Tryz.tok Tryz.mixed Tryz.func45 (by kernel_rfl) fun W => ?_
  unfold l_eqEntryS at h
  (refine avb ?_)
  refine len_sel (m := (v0.length : Int)) (by (first|rfl|simp [sub])) ?_
  (refine avb ?_)
  refine len_sel (m := (v1.length : Int)) (by (first|rfl|simp [sub])) ?_
  (refine avb ?_)
  refine br_sel h (fun _ h => ?_) (fun _ h => ?_)
  · (refine avb ?_)
    obtain rfl := some_in h
    (exact eq_by)
  · (refine ab0 ?_)
    obtain ⟨zt4, h, gt4⟩ := cutb_some h
    refine W.r_cut (fun (t4 : Unit) => ⟨[], [], 1000⟩) (fun t => .nx t = zt4) ?_ ?_
    · (refine avb ?_)
      refine loop_lp (fun (p1 : Int) => ⟨[(0, .d (D.sl 4 (List.map Gx.Entry.enc v0))), (1, .d (D.sl 4 (List.map Gx.Entry.enc v1))), (5, .d (D.i p1))], [], 1000⟩) h ?_ ?_
      · (exact weak_by)
      intro np1 p1 yp1 h hfp1
      unfold l_eqEntryS_L1 at h
      (refine avb ?_)
      refine len_sel (m := (v0.length : Int)) (by (first|rfl|simp [sub])) ?_
      (refine avb ?_)
      refine br_sel h (fun _ h => ?_) (fun _ h => ?_)
      · (refine avb ?_)
        refine idx_sel h (fun x1 hx1 h => ?_)
        (refine avb ?_)
        refine idx_sel h (fun x2 hx2 h => ?_)
        (refine avb ?_)
        (refine plb ?_);refine call_sel (E := fun (x : Bool) => DV.one (D.b x)) h (fun x3 h1 => (l_eqEntry_ok N x1 x2 h1)) (fun x3 hx3 h => ?_)
        (refine avb ?_)
        refine br_sel h (fun _ h => ?_) (fun _ h => ?_)
        · (refine avb ?_)
          obtain rfl := some_in h
          have h : some _ = some _ := congrArg some (show _ = _ from hfp1)
          obtain rfl := some_in h
          have h : some _ = some _ := congrArg some (show _ = _ from gt4)
          obtain rfl := some_in h
          (exact eq_by)
        · (refine avb ?_)
          obtain rfl := some_in h
          refine loop_back hfp1 ?_
          (exact weak_by)
      · (refine avb ?_)
        obtain rfl := some_in h
        have h : some _ = some _ := congrArg some (show _ = _ from hfp1)
        refine cut_at (()) (some_in h) ?_
        (exact weak_by)
    rintro t4 rfl
    have h : _ = some _ := gt4
    (refine avb ?_)
    obtain rfl := some_in h
    (exact eq_by)

theorem l_eqHouse_ok (N : Nat) (v0 : Gx.House) (v1 : Gx.House) {r : Bool} (h : l_eqHouse N v0 v1 = some r) : Pure Tryz.prog 12 [DV.agg (Gx.House.enc v0), DV.agg (Gx.House.enc v1)] (DV.one (D.b r)) := by
  refine pure_of_walk Tryz.tok Tryz.mixed Tryz.func12 (by kernel_rfl) fun W => ?_
  unfold l_eqHouse at h
  (refine avb ?_)
  (refine plb ?_);refine call_sel (E := fun (x : Bool) => DV.one (D.b x)) h (fun x1 h1 => (l_eqListedS_ok N v0.mList v1.mList h1)) (fun x1 hx1 h => ?_)
  (refine avb ?_)
  refine br_sel h (fun _ h => ?_) (fun _ h => ?_)
  · (refine avb ?_)
    obtain rfl := some_in h
    (exact eq_by)
  · (refine avb ?_)
    (refine plb ?_);refine call_sel (E := fun (x : Bool) => DV.one (D.b x)) h (fun x2 h1 => (l_eqMeaningS_ok N v0.mDict v1.mDict h1)) (fun x2 hx2 h => ?_)
    (refine avb ?_)
    refine br_sel h (fun _ h => ?_) (fun _ h => ?_)
    · (refine avb ?_)
      obtain rfl := some_in h
      (exact eq_by)
    · (refine avb ?_)
      (refine plb ?_);refine call_sel (E := fun (x : Bool) => DV.one (D.b x)) h (fun x3 h1 => (l_eqDraft_ok N v0.mDesk v1.mDesk h1)) (fun x3 hx3 h => ?_)
      (refine avb ?_)
      refine br_sel h (fun _ h => ?_) (fun _ h => ?_)
      · (refine avb ?_)
        obtain rfl := some_in h
        (exact eq_by)
      · (refine avb ?_)
        (refine plb ?_);refine call_sel (E := fun (x : Bool) => DV.one (D.b x)) h (fun x4 h1 => (l_eqIssueS_ok N v0.mIssues v1.mIssues h1)) (fun x4 hx4 h => ?_)
        (refine avb ?_)
        refine br_sel h (fun _ h => ?_) (fun _ h => ?_)
        · (refine avb ?_)
          obtain rfl := some_in h
          (exact eq_by)
        · (refine avb ?_)
          (refine plb ?_);refine call_sel (E := fun (x : Bool) => DV.one (D.b x)) h (fun x5 h1 => (l_eqUsedS_ok N v0.mUses v1.mUses h1)) (fun x5 hx5 h => ?_)
          (refine avb ?_)
          refine br_sel h (fun _ h => ?_) (fun _ h => ?_)
          · (refine avb ?_)
            obtain rfl := some_in h
            (exact eq_by)
          · (refine avb ?_)
            (refine plb ?_);refine call_sel (E := fun (x : Bool) => DV.one (D.b x)) h (fun x6 h1 => (l_eqCorrectionS_ok N v0.mCorrections v1.mCorrections h1)) (fun x6 hx6 h => ?_)
            (refine avb ?_)
            refine br_sel h (fun _ h => ?_) (fun _ h => ?_)
            · (refine avb ?_)
              obtain rfl := some_in h
              (exact eq_by)
            · (refine avb ?_)
              (refine plb ?_);refine call_sel (E := fun (x : Bool) => DV.one (D.b x)) h (fun x7 h1 => (l_eqEntryS_ok N v0.mEntries v1.mEntries h1)) (fun x7 hx7 h => ?_)
              (refine avb ?_)
              refine br_sel h (fun _ h => ?_) (fun _ h => ?_)
              · (refine avb ?_)
                obtain rfl := some_in h
                (exact eq_by)
              · (refine avb ?_)
                refine br_sel h (fun _ h => ?_) (fun _ h => ?_)
                · (refine avb ?_)
                  obtain rfl := some_in h
                  (exact eq_by)
                · (refine avb ?_)
                  obtain rfl := some_in h
                  (exact eq_by)

theorem l_FnExactIssueHard_ok (N : Nat) (v0 : Gx.House) (v1 : Int) {r : Bool} (h : l_FnExactIssueHard N v0 v1 = some r) : Pure Tryz.prog 3 [DV.agg (Gx.House.enc v0), DV.one (D.i v1)] (DV.one (D.b r)) := by
  refine pure_of_walk Tryz.tok Tryz.mixed Tryz.func3 (by kernel_rfl) fun W => ?_
  unfold l_FnExactIssueHard at h
  (refine avb ?_)
  (refine plb ?_);refine call_sel (E := fun (x : Int) => DV.one (D.i x)) h (fun x1 h1 => (l_szHouse_ok N v0 1048576 h1)) (fun x1 hx1 h => ?_)
  (refine avb ?_)
  refine br_sel h (fun _ h => ?_) (fun _ h => ?_)
  · (refine avb ?_)
    obtain rfl := some_in h
    (exact eq_by)
  · (refine avb ?_)
    (refine plb ?_);refine call_sel (E := fun (x : Gx.House) => DV.agg (Gx.House.enc x)) h (fun x2 h1 => (l_toHouse_ok N v0 h1)) (fun x2 hx2 h => ?_)
    (refine avb ?_)
    (refine plb ?_);refine call_sel (E := fun (x : Int) => DV.one (D.i x)) h (fun x3 h1 => (s_IssueHard_ok N x2 v1 h1)) (fun x3 hx3 h => ?_)
    (refine avb ?_)
    (refine plb ?_);refine call_sel (E := fun (x : Gx.House) => DV.agg (Gx.House.enc x)) h (fun x4 h1 => (l_toHouse_ok N v0 h1)) (fun x4 hx4 h => ?_)
    (refine avb ?_)
    (refine plb ?_);refine call_sel (E := fun (x : Int) => DV.one (D.i x)) h (fun x5 h1 => (i_IssueHard_ok N x4 v1 h1)) (fun x5 hx5 h => ?_)
    (refine avb ?_)
    refine br_sel h (fun _ h => ?_) (fun _ h => ?_)
    · (refine avb ?_)
      obtain rfl := some_in h
      (exact eq_by)
    · (refine avb ?_)
      (refine plb ?_);refine call_sel (E := fun (x : Gx.House) => DV.agg (Gx.House.enc x)) h (fun x6 h1 => (l_toHouse_ok N v0 h1)) (fun x6 hx6 h => ?_)
      (refine avb ?_)
      (refine plb ?_);refine call_sel (E := fun (x : Bool) => DV.one (D.b x)) h (fun x7 h1 => (l_eqHouse_ok N x4 x6 h1)) (fun x7 hx7 h => ?_)
      (refine avb ?_)
      refine br_sel h (fun _ h => ?_) (fun _ h => ?_)
      · (refine avb ?_)
        obtain rfl := some_in h
        (exact eq_by)
      · (refine avb ?_)
        obtain rfl := some_in h
        (exact eq_by)
end Lw
end Go.Proofs
