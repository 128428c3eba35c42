/- PRINTED BY gen.py (mine): their contracts. -/
import Derived.Test.YtefbbjneleifjaaGreatAvPfIssueScore0
namespace Go.Proofs
open Go Go.Av
set_option maxRecDepth 100000
set_option maxHeartbeats 4000000
set_option linter.unusedVariables false
set_option linter.unusedSimpArgs false
namespace Lw
theorem s_IssueScore_ok (N : Nat) (v0 : Gx.House) (v1 : Int) {r : Int} (h : s_IssueScore N v0 v1 = some r) : Pure Tryz.prog 7 [DV.agg (Gx.House.enc v0), DV.one (D.i v1)] (DV.one (D.i r)) := by
  refine pure_of_walk Tryz.tok Tryz.mixed Tryz.func7 (by kernel_rfl) fun W => ?_
  unfold s_IssueScore at h
  (focus ((conv=>whnf);repeat ((first|refine zo _ ?_|refine zr _ rfl ?_|refine zn _ ?_|refine zs _ ?_|refine zd _ ?_|refine zw _ (by kernel_rfl) ?_);conv=>whnf)))
  (focus (refine Or.inl ?_; conv => whnf));refine call_sel (E := fun (x : Gx.Issue × Bool) => DV.tup [DV.agg (Gx.Issue.enc x.1), DV.one (D.b x.2)]) h (fun x1 h1 => (s_IssueOf_ok N v0 v1 h1)) (fun x1 hx1 h => ?_)
  (focus ((conv=>whnf);repeat ((first|refine zo _ ?_|refine zr _ rfl ?_|refine zn _ ?_|refine zs _ ?_|refine zd _ ?_|refine zw _ (by kernel_rfl) ?_);conv=>whnf)))
  refine br_sel h (fun _ h => ?_) (fun _ h => ?_)
  · (focus ((conv=>whnf);repeat ((first|refine zo _ ?_|refine zr _ rfl ?_|refine zn _ ?_|refine zs _ ?_|refine zd _ ?_|refine zw _ (by kernel_rfl) ?_);conv=>whnf)))
    obtain rfl := some_in h
    (first|rfl|exact Nat.le_of_ble_eq_true rfl|exact map_snoc _ _ _|exact map_put _ _ _ _|exact map_rep rfl|(simp [sub] <;> rfl))
  · (focus ((conv=>whnf);repeat ((first|refine zo _ ?_|refine zr _ rfl ?_|refine zn _ ?_|refine zs _ ?_|refine zd _ ?_|refine zw _ (by kernel_rfl) ?_);conv=>whnf)))
    (focus (refine Or.inl ?_; conv => whnf));refine call_sel (E := fun (x : (List (List UInt8))) => DV.one (D.sl 1 (List.map Gx.encS x))) h (fun x2 h1 => (s_l36Words_ok N x1.1 h1)) (fun x2 hx2 h => ?_)
    (focus ((conv=>whnf);repeat ((first|refine zo _ ?_|refine zr _ rfl ?_|refine zn _ ?_|refine zs _ ?_|refine zd _ ?_|refine zw _ (by kernel_rfl) ?_);conv=>whnf)))
    (focus (refine Or.inl ?_; conv => whnf));refine call_sel (E := fun (x : Int) => DV.one (D.i x)) h (fun x3 h1 => (s_ScoreOf_ok N v0.mList x2 h1)) (fun x3 hx3 h => ?_)
    (focus ((conv=>whnf);repeat ((first|refine zo _ ?_|refine zr _ rfl ?_|refine zn _ ?_|refine zs _ ?_|refine zd _ ?_|refine zw _ (by kernel_rfl) ?_);conv=>whnf)))
    obtain rfl := some_in h
    (first|rfl|exact Nat.le_of_ble_eq_true rfl|exact map_snoc _ _ _|exact map_put _ _ _ _|exact map_rep rfl|(simp [sub] <;> rfl))

theorem i_copyClue_ok (N : Nat) (v0 : Gx.Clue) {r : Gx.Clue} (h : i_copyClue N v0 = some r) : Pure Tryz.prog 161 [DV.agg (Gx.Clue.enc v0)] (DV.agg (Gx.Clue.enc r)) := by
  refine pure_of_walk Tryz.tok Tryz.mixed Tryz.func161 (by kernel_rfl) fun W => ?_
  unfold i_copyClue at h
  (focus ((conv=>whnf);repeat ((first|refine zo _ ?_|refine zr _ rfl ?_|refine zn _ ?_|refine zs _ ?_|refine zd _ ?_|refine zw _ (by kernel_rfl) ?_);conv=>whnf)))
  (focus (refine Or.inl ?_; conv => whnf));refine call_sel (E := fun (x : (List (Gx.Step))) => DV.one (D.sl 4 (List.map Gx.Step.enc x))) h (fun x1 h1 => (g_slices_Clone_Simpl_Step_impl_Step_ok N v0.mPlay h1)) (fun x1 hx1 h => ?_)
  (focus ((conv=>whnf);repeat ((first|refine zo _ ?_|refine zr _ rfl ?_|refine zn _ ?_|refine zs _ ?_|refine zd _ ?_|refine zw _ (by kernel_rfl) ?_);conv=>whnf)))
  obtain rfl := some_in h
  (first|rfl|exact Nat.le_of_ble_eq_true rfl|exact map_snoc _ _ _|exact map_put _ _ _ _|exact map_rep rfl|(simp [sub] <;> rfl))

theorem i_copyClues_ok (N : Nat) (v0 : List (Gx.Clue)) {r : (List (Gx.Clue))} (h : i_copyClues N v0 = some r) : Pure Tryz.prog 134 [DV.one (D.sl 2 (List.map Gx.Clue.enc v0))] (DV.one (D.sl 2 (List.map Gx.Clue.enc r))) := by
  refine pure_of_walk Tryz.tok Tryz.mixed Tryz.func134 (by kernel_rfl) fun W => ?_
  unfold i_copyClues at h
  (focus ((conv=>whnf);repeat ((first|refine zo _ ?_|refine zr _ rfl ?_|refine zn _ ?_|refine zd _ ?_|refine zw _ (by kernel_rfl) ?_);conv=>whnf)))
  refine W.r_seq ?_
  (focus ((conv=>whnf);repeat ((first|refine zo _ ?_|refine zr _ rfl ?_|refine zn _ ?_|refine zd _ ?_|refine zw _ (by kernel_rfl) ?_);conv=>whnf)))
  refine W.r_seq ?_
  (focus ((conv=>whnf);repeat ((first|refine zo _ ?_|refine zr _ rfl ?_|refine zn _ ?_|refine zd _ ?_|refine zw _ (by kernel_rfl) ?_);conv=>whnf)))
  obtain ⟨zt3, h, gt3⟩ := bnd_some h
  refine W.r_cut (fun (t3 : (List (Gx.Clue))) => ⟨[(3, .sl 1)], [(1, some (.arr 2 (List.map Gx.Clue.enc t3) true))], 1000⟩) (fun t => t = zt3) ?_ ?_
  · (focus ((conv=>whnf);repeat ((first|refine zo _ ?_|refine zr _ rfl ?_|refine zn _ ?_|refine zs _ ?_|refine zd _ ?_|refine zw _ (by kernel_rfl) ?_);conv=>whnf)))
    refine len_sel (m := (v0.length : Int)) (by (first|rfl|simp [sub])) ?_
    (focus ((conv=>whnf);repeat ((first|refine zo _ ?_|refine zr _ rfl ?_|refine zn _ ?_|refine zs _ ?_|refine zd _ ?_|refine zw _ (by kernel_rfl) ?_);conv=>whnf)))
    refine loop_lp (fun (p1 : (List (Gx.Clue)) × Int) => ⟨[(3, .sl 1), (6, .d (D.sl 2 (List.map Gx.Clue.enc v0))), (7, .d (D.i (v0.length : Int))), (8, .d (D.i p1.2))], [(1, some (.arr 2 (List.map Gx.Clue.enc p1.1) true))], 1000⟩) h ?_ ?_
    · (refine weak_go ?_;(repeat ((conv=>whnf);refine And.intro (by (first|rfl|exact Nat.le_of_ble_eq_true rfl|exact map_snoc _ _ _|exact map_put _ _ _ _|exact map_rep rfl|(simp [sub] <;> rfl))) ?_));(conv=>whnf);exact trivial)
    intro np1 p1 yp1 h hfp1
    unfold i_copyClues_L1 at h
    (focus ((conv=>whnf);repeat ((first|refine zo _ ?_|refine zr _ rfl ?_|refine zn _ ?_|refine zs _ ?_|refine zd _ ?_|refine zw _ (by kernel_rfl) ?_);conv=>whnf)))
    refine br_sel h (fun _ h => ?_) (fun _ h => ?_)
    · (focus ((conv=>whnf);repeat ((first|refine zo _ ?_|refine zr _ rfl ?_|refine zn _ ?_|refine zs _ ?_|refine zd _ ?_|refine zw _ (by kernel_rfl) ?_);conv=>whnf)))
      refine idx_sel h (fun x1 hx1 h => ?_)
      (focus ((conv=>whnf);repeat ((first|refine zo _ ?_|refine zr _ rfl ?_|refine zn _ ?_|refine zs _ ?_|refine zd _ ?_|refine zw _ (by kernel_rfl) ?_);conv=>whnf)))
      (focus (refine Or.inl ?_; conv => whnf));refine call_sel (E := fun (x : Gx.Clue) => DV.agg (Gx.Clue.enc x)) h (fun x2 h1 => (i_copyClue_ok N x1 h1)) (fun x2 hx2 h => ?_)
      (focus ((conv=>whnf);repeat ((first|refine zo _ ?_|refine zr _ rfl ?_|refine zn _ ?_|refine zs _ ?_|refine zd _ ?_|refine zw _ (by kernel_rfl) ?_);conv=>whnf)))
      refine app_sel h (app_ok (by (first|rfl|simp [sub])) (by (first|rfl|simp [sub])) (by decide)) (by (intro h; cases h)) (fun h => ?_)
      (focus ((conv=>whnf);repeat ((first|refine zo _ ?_|refine zr _ rfl ?_|refine zn _ ?_|refine zs _ ?_|refine zd _ ?_|refine zw _ (by kernel_rfl) ?_);conv=>whnf)))
      obtain rfl := some_in h
      refine loop_back hfp1 ?_
      (refine weak_go ?_;(repeat ((conv=>whnf);refine And.intro (by (first|rfl|exact Nat.le_of_ble_eq_true rfl|exact map_snoc _ _ _|exact map_put _ _ _ _|exact map_rep rfl|(simp [sub] <;> rfl))) ?_));(conv=>whnf);exact trivial)
    · (focus ((conv=>whnf);repeat ((first|refine zo _ ?_|refine zr _ rfl ?_|refine zn _ ?_|refine zs _ ?_|refine zd _ ?_|refine zw _ (by kernel_rfl) ?_);conv=>whnf)))
      obtain rfl := some_in h
      have h : some _ = some _ := congrArg some (show _ = _ from hfp1)
      refine cut_at (p1.1) (some_in h) ?_
      (refine weak_go ?_;(repeat ((conv=>whnf);refine And.intro (by (first|rfl|exact Nat.le_of_ble_eq_true rfl|exact map_snoc _ _ _|exact map_put _ _ _ _|exact map_rep rfl|(simp [sub] <;> rfl))) ?_));(conv=>whnf);exact trivial)
  rintro t3 rfl
  have h : _ = some _ := gt3
  (focus ((conv=>whnf);repeat ((first|refine zo _ ?_|refine zr _ rfl ?_|refine zn _ ?_|refine zs _ ?_|refine zd _ ?_|refine zw _ (by kernel_rfl) ?_);conv=>whnf)))
  obtain rfl := some_in h
  (first|rfl|exact Nat.le_of_ble_eq_true rfl|exact map_snoc _ _ _|exact map_put _ _ _ _|exact map_rep rfl|(simp [sub] <;> rfl))

theorem i_copyPuzzle_ok (N : Nat) (v0 : Gx.Puzzle) {r : Gx.Puzzle} (h : i_copyPuzzle N v0 = some r) : Pure Tryz.prog 101 [DV.agg (Gx.Puzzle.enc v0)] (DV.agg (Gx.Puzzle.enc r)) := by
  refine pure_of_walk Tryz.tok Tryz.mixed Tryz.func101 (by kernel_rfl) fun W => ?_
  unfold i_copyPuzzle at h
  (focus ((conv=>whnf);repeat ((first|refine zo _ ?_|refine zr _ rfl ?_|refine zn _ ?_|refine zs _ ?_|refine zd _ ?_|refine zw _ (by kernel_rfl) ?_);conv=>whnf)))
  (focus (refine Or.inl ?_; conv => whnf));refine call_sel (E := fun (x : (List (Gx.Clue))) => DV.one (D.sl 2 (List.map Gx.Clue.enc x))) h (fun x1 h1 => (i_copyClues_ok N v0.mClues h1)) (fun x1 hx1 h => ?_)
  (focus ((conv=>whnf);repeat ((first|refine zo _ ?_|refine zr _ rfl ?_|refine zn _ ?_|refine zs _ ?_|refine zd _ ?_|refine zw _ (by kernel_rfl) ?_);conv=>whnf)))
  (focus (refine Or.inl ?_; conv => whnf));refine call_sel (E := fun (x : (List (Int))) => DV.one (D.sl 1 (List.map Gx.encI x))) h (fun x2 h1 => (g_slices_Clone_Sint_int_ok N v0.mSeals h1)) (fun x2 hx2 h => ?_)
  (focus ((conv=>whnf);repeat ((first|refine zo _ ?_|refine zr _ rfl ?_|refine zn _ ?_|refine zs _ ?_|refine zd _ ?_|refine zw _ (by kernel_rfl) ?_);conv=>whnf)))
  obtain rfl := some_in h
  (first|rfl|exact Nat.le_of_ble_eq_true rfl|exact map_snoc _ _ _|exact map_put _ _ _ _|exact map_rep rfl|(simp [sub] <;> rfl))

theorem i_copyIssue_ok (N : Nat) (v0 : Gx.Issue) {r : Gx.Issue} (h : i_copyIssue N v0 = some r) : Pure Tryz.prog 67 [DV.agg (Gx.Issue.enc v0)] (DV.agg (Gx.Issue.enc r)) := by
  refine pure_of_walk Tryz.tok Tryz.mixed Tryz.func67 (by kernel_rfl) fun W => ?_
  unfold i_copyIssue at h
  (focus ((conv=>whnf);repeat ((first|refine zo _ ?_|refine zr _ rfl ?_|refine zn _ ?_|refine zs _ ?_|refine zd _ ?_|refine zw _ (by kernel_rfl) ?_);conv=>whnf)))
  (focus (refine Or.inl ?_; conv => whnf));refine call_sel (E := fun (x : Gx.Puzzle) => DV.agg (Gx.Puzzle.enc x)) h (fun x1 h1 => (i_copyPuzzle_ok N v0.mPuzzle h1)) (fun x1 hx1 h => ?_)
  (focus ((conv=>whnf);repeat ((first|refine zo _ ?_|refine zr _ rfl ?_|refine zn _ ?_|refine zs _ ?_|refine zd _ ?_|refine zw _ (by kernel_rfl) ?_);conv=>whnf)))
  obtain rfl := some_in h
  (first|rfl|exact Nat.le_of_ble_eq_true rfl|exact map_snoc _ _ _|exact map_put _ _ _ _|exact map_rep rfl|(simp [sub] <;> rfl))

theorem i_IssueOf_ok (N : Nat) (v0 : Gx.House) (v1 : Int) {r : Gx.Issue × Bool} (h : i_IssueOf N v0 v1 = some r) : Pure Tryz.prog 32 [DV.agg (Gx.House.enc v0), DV.one (D.i v1)] (DV.tup [DV.agg (Gx.Issue.enc r.1), DV.one (D.b r.2)]) := by
  refine pure_of_walk Tryz.tok Tryz.mixed Tryz.func32 (by kernel_rfl) fun W => ?_
  unfold i_IssueOf at h
  (focus ((conv=>whnf);repeat ((first|refine zo _ ?_|refine zr _ rfl ?_|refine zn _ ?_|refine zd _ ?_|refine zw _ (by kernel_rfl) ?_);conv=>whnf)))
  refine W.r_seq ?_
  (focus ((conv=>whnf);repeat ((first|refine zo _ ?_|refine zr _ rfl ?_|refine zn _ ?_|refine zd _ ?_|refine zw _ (by kernel_rfl) ?_);conv=>whnf)))
  obtain ⟨zt3, h, gt3⟩ := cutb_some h
  refine W.r_cut (fun (t3 : Unit) => ⟨[(4, .ptr 1 0 0)], [(1, some (.box [.d (D.i ((⟨0, (⟨(⟨0, 0, ([] : List UInt8)⟩ : Gx.Grid), [], [], 0⟩ : Gx.Puzzle), ([] : List UInt8), 0, 0⟩ : Gx.Issue).mNumber)), .d (D.i ((((⟨0, (⟨(⟨0, 0, ([] : List UInt8)⟩ : Gx.Grid), [], [], 0⟩ : Gx.Puzzle), ([] : List UInt8), 0, 0⟩ : Gx.Issue).mPuzzle).mGrid).mRows)), .d (D.i ((((⟨0, (⟨(⟨0, 0, ([] : List UInt8)⟩ : Gx.Grid), [], [], 0⟩ : Gx.Puzzle), ([] : List UInt8), 0, 0⟩ : Gx.Issue).mPuzzle).mGrid).mCols)), .d (D.s ((((⟨0, (⟨(⟨0, 0, ([] : List UInt8)⟩ : Gx.Grid), [], [], 0⟩ : Gx.Puzzle), ([] : List UInt8), 0, 0⟩ : Gx.Issue).mPuzzle).mGrid).mCells)), .d (D.sl 2 (List.map Gx.Clue.enc (((⟨0, (⟨(⟨0, 0, ([] : List UInt8)⟩ : Gx.Grid), [], [], 0⟩ : Gx.Puzzle), ([] : List UInt8), 0, 0⟩ : Gx.Issue).mPuzzle).mClues))), .d (D.sl 1 (List.map Gx.encI (((⟨0, (⟨(⟨0, 0, ([] : List UInt8)⟩ : Gx.Grid), [], [], 0⟩ : Gx.Puzzle), ([] : List UInt8), 0, 0⟩ : Gx.Issue).mPuzzle).mSeals))), .d (D.i (((⟨0, (⟨(⟨0, 0, ([] : List UInt8)⟩ : Gx.Grid), [], [], 0⟩ : Gx.Puzzle), ([] : List UInt8), 0, 0⟩ : Gx.Issue).mPuzzle).mSalt)), .d (D.s ((⟨0, (⟨(⟨0, 0, ([] : List UInt8)⟩ : Gx.Grid), [], [], 0⟩ : Gx.Puzzle), ([] : List UInt8), 0, 0⟩ : Gx.Issue).mFill)), .d (D.i ((⟨0, (⟨(⟨0, 0, ([] : List UInt8)⟩ : Gx.Grid), [], [], 0⟩ : Gx.Puzzle), ([] : List UInt8), 0, 0⟩ : Gx.Issue).mOpen)), .d (D.i ((⟨0, (⟨(⟨0, 0, ([] : List UInt8)⟩ : Gx.Grid), [], [], 0⟩ : Gx.Puzzle), ([] : List UInt8), 0, 0⟩ : Gx.Issue).mClose))]))], 1000⟩) (fun t => .nx t = zt3) ?_ ?_
  · (focus ((conv=>whnf);repeat ((first|refine zo _ ?_|refine zr _ rfl ?_|refine zn _ ?_|refine zs _ ?_|refine zd _ ?_|refine zw _ (by kernel_rfl) ?_);conv=>whnf)))
    refine len_sel (m := (v0.mIssues.length : Int)) (by (first|rfl|simp [sub])) ?_
    (focus ((conv=>whnf);repeat ((first|refine zo _ ?_|refine zr _ rfl ?_|refine zn _ ?_|refine zs _ ?_|refine zd _ ?_|refine zw _ (by kernel_rfl) ?_);conv=>whnf)))
    refine loop_lp (fun (p1 : Int) => ⟨[(1, .d (D.i v1)), (4, .ptr 1 0 0), (9, .d (D.sl 10 (List.map Gx.Issue.enc v0.mIssues))), (10, .d (D.i (v0.mIssues.length : Int))), (11, .d (D.i p1))], [(1, some (.box [.d (D.i ((⟨0, (⟨(⟨0, 0, ([] : List UInt8)⟩ : Gx.Grid), [], [], 0⟩ : Gx.Puzzle), ([] : List UInt8), 0, 0⟩ : Gx.Issue).mNumber)), .d (D.i ((((⟨0, (⟨(⟨0, 0, ([] : List UInt8)⟩ : Gx.Grid), [], [], 0⟩ : Gx.Puzzle), ([] : List UInt8), 0, 0⟩ : Gx.Issue).mPuzzle).mGrid).mRows)), .d (D.i ((((⟨0, (⟨(⟨0, 0, ([] : List UInt8)⟩ : Gx.Grid), [], [], 0⟩ : Gx.Puzzle), ([] : List UInt8), 0, 0⟩ : Gx.Issue).mPuzzle).mGrid).mCols)), .d (D.s ((((⟨0, (⟨(⟨0, 0, ([] : List UInt8)⟩ : Gx.Grid), [], [], 0⟩ : Gx.Puzzle), ([] : List UInt8), 0, 0⟩ : Gx.Issue).mPuzzle).mGrid).mCells)), .d (D.sl 2 (List.map Gx.Clue.enc (((⟨0, (⟨(⟨0, 0, ([] : List UInt8)⟩ : Gx.Grid), [], [], 0⟩ : Gx.Puzzle), ([] : List UInt8), 0, 0⟩ : Gx.Issue).mPuzzle).mClues))), .d (D.sl 1 (List.map Gx.encI (((⟨0, (⟨(⟨0, 0, ([] : List UInt8)⟩ : Gx.Grid), [], [], 0⟩ : Gx.Puzzle), ([] : List UInt8), 0, 0⟩ : Gx.Issue).mPuzzle).mSeals))), .d (D.i (((⟨0, (⟨(⟨0, 0, ([] : List UInt8)⟩ : Gx.Grid), [], [], 0⟩ : Gx.Puzzle), ([] : List UInt8), 0, 0⟩ : Gx.Issue).mPuzzle).mSalt)), .d (D.s ((⟨0, (⟨(⟨0, 0, ([] : List UInt8)⟩ : Gx.Grid), [], [], 0⟩ : Gx.Puzzle), ([] : List UInt8), 0, 0⟩ : Gx.Issue).mFill)), .d (D.i ((⟨0, (⟨(⟨0, 0, ([] : List UInt8)⟩ : Gx.Grid), [], [], 0⟩ : Gx.Puzzle), ([] : List UInt8), 0, 0⟩ : Gx.Issue).mOpen)), .d (D.i ((⟨0, (⟨(⟨0, 0, ([] : List UInt8)⟩ : Gx.Grid), [], [], 0⟩ : Gx.Puzzle), ([] : List UInt8), 0, 0⟩ : Gx.Issue).mClose))]))], 1000⟩) h ?_ ?_
    · (refine weak_go ?_;(repeat ((conv=>whnf);refine And.intro (by (first|rfl|exact Nat.le_of_ble_eq_true rfl|exact map_snoc _ _ _|exact map_put _ _ _ _|exact map_rep rfl|(simp [sub] <;> rfl))) ?_));(conv=>whnf);exact trivial)
    intro np1 p1 yp1 h hfp1
    unfold i_IssueOf_L1 at h
    (focus ((conv=>whnf);repeat ((first|refine zo _ ?_|refine zr _ rfl ?_|refine zn _ ?_|refine zs _ ?_|refine zd _ ?_|refine zw _ (by kernel_rfl) ?_);conv=>whnf)))
    refine br_sel h (fun _ h => ?_) (fun _ h => ?_)
    · (focus ((conv=>whnf);repeat ((first|refine zo _ ?_|refine zr _ rfl ?_|refine zn _ ?_|refine zs _ ?_|refine zd _ ?_|refine zw _ (by kernel_rfl) ?_);conv=>whnf)))
      refine idx_sel h (fun x1 hx1 h => ?_)
      (focus ((conv=>whnf);repeat ((first|refine zo _ ?_|refine zr _ rfl ?_|refine zn _ ?_|refine zs _ ?_|refine zd _ ?_|refine zw _ (by kernel_rfl) ?_);conv=>whnf)))
      refine br_sel h (fun _ h => ?_) (fun _ h => ?_)
      · (focus ((conv=>whnf);repeat ((first|refine zo _ ?_|refine zr _ rfl ?_|refine zn _ ?_|refine zs _ ?_|refine zd _ ?_|refine zw _ (by kernel_rfl) ?_);conv=>whnf)))
        (focus (refine Or.inl ?_; conv => whnf));refine call_sel (E := fun (x : Gx.Issue) => DV.agg (Gx.Issue.enc x)) h (fun x2 h1 => (i_copyIssue_ok N x1 h1)) (fun x2 hx2 h => ?_)
        (focus ((conv=>whnf);repeat ((first|refine zo _ ?_|refine zr _ rfl ?_|refine zn _ ?_|refine zs _ ?_|refine zd _ ?_|refine zw _ (by kernel_rfl) ?_);conv=>whnf)))
        obtain rfl := some_in h
        have h : some _ = some _ := congrArg some (show _ = _ from hfp1)
        obtain rfl := some_in h
        have h : some _ = some _ := congrArg some (show _ = _ from gt3)
        obtain rfl := some_in h
        (first|rfl|exact Nat.le_of_ble_eq_true rfl|exact map_snoc _ _ _|exact map_put _ _ _ _|exact map_rep rfl|(simp [sub] <;> rfl))
      · (focus ((conv=>whnf);repeat ((first|refine zo _ ?_|refine zr _ rfl ?_|refine zn _ ?_|refine zs _ ?_|refine zd _ ?_|refine zw _ (by kernel_rfl) ?_);conv=>whnf)))
        obtain rfl := some_in h
        refine loop_back hfp1 ?_
        (refine weak_go ?_;(repeat ((conv=>whnf);refine And.intro (by (first|rfl|exact Nat.le_of_ble_eq_true rfl|exact map_snoc _ _ _|exact map_put _ _ _ _|exact map_rep rfl|(simp [sub] <;> rfl))) ?_));(conv=>whnf);exact trivial)
    · (focus ((conv=>whnf);repeat ((first|refine zo _ ?_|refine zr _ rfl ?_|refine zn _ ?_|refine zs _ ?_|refine zd _ ?_|refine zw _ (by kernel_rfl) ?_);conv=>whnf)))
      obtain rfl := some_in h
      have h : some _ = some _ := congrArg some (show _ = _ from hfp1)
      refine cut_at (()) (some_in h) ?_
      (refine weak_go ?_;(repeat ((conv=>whnf);refine And.intro (by (first|rfl|exact Nat.le_of_ble_eq_true rfl|exact map_snoc _ _ _|exact map_put _ _ _ _|exact map_rep rfl|(simp [sub] <;> rfl))) ?_));(conv=>whnf);exact trivial)
  rintro t3 rfl
  have h : _ = some _ := gt3
  (focus ((conv=>whnf);repeat ((first|refine zo _ ?_|refine zr _ rfl ?_|refine zn _ ?_|refine zs _ ?_|refine zd _ ?_|refine zw _ (by kernel_rfl) ?_);conv=>whnf)))
  obtain rfl := some_in h
  (first|rfl|exact Nat.le_of_ble_eq_true rfl|exact map_snoc _ _ _|exact map_put _ _ _ _|exact map_rep rfl|(simp [sub] <;> rfl))

theorem i_InRange_ok (N : Nat) (v0 : Int) (v1 : Int) (v2 : Int) {r : Bool} (h : i_InRange N v0 v1 v2 = some r) : Pure Tryz.prog 104 [DV.one (D.i v0), DV.one (D.i v1), DV.one (D.i v2)] (DV.one (D.b r)) := by
  refine pure_of_walk Tryz.tok Tryz.mixed Tryz.func104 (by kernel_rfl) fun W => ?_
  unfold i_InRange at h
  (focus ((conv=>whnf);repeat ((first|refine zo _ ?_|refine zr _ rfl ?_|refine zn _ ?_|refine zs _ ?_|refine zd _ ?_|refine zw _ (by kernel_rfl) ?_);conv=>whnf)))
  refine br_sel h (fun _ h => ?_) (fun _ h => ?_)
  · (focus ((conv=>whnf);repeat ((first|refine zo _ ?_|refine zr _ rfl ?_|refine zn _ ?_|refine zs _ ?_|refine zd _ ?_|refine zw _ (by kernel_rfl) ?_);conv=>whnf)))
    obtain rfl := some_in h
    (first|rfl|exact Nat.le_of_ble_eq_true rfl|exact map_snoc _ _ _|exact map_put _ _ _ _|exact map_rep rfl|(simp [sub] <;> rfl))
  · (focus ((conv=>whnf);repeat ((first|refine zo _ ?_|refine zr _ rfl ?_|refine zn _ ?_|refine zs _ ?_|refine zd _ ?_|refine zw _ (by kernel_rfl) ?_);conv=>whnf)))
    obtain rfl := some_in h
    (first|rfl|exact Nat.le_of_ble_eq_true rfl|exact map_snoc _ _ _|exact map_put _ _ _ _|exact map_rep rfl|(simp [sub] <;> rfl))

theorem i_IsGrid_ok (N : Nat) (v0 : Gx.Grid) {r : Bool} (h : i_IsGrid N v0 = some r) : Pure Tryz.prog 148 [DV.agg (Gx.Grid.enc v0)] (DV.one (D.b r)) := by
  refine pure_of_walk Tryz.tok Tryz.mixed Tryz.func148 (by kernel_rfl) fun W => ?_
  unfold i_IsGrid at h
  (focus ((conv=>whnf);repeat ((first|refine zo _ ?_|refine zr _ rfl ?_|refine zn _ ?_|refine zs _ ?_|refine zd _ ?_|refine zw _ (by kernel_rfl) ?_);conv=>whnf)))
  (focus (refine Or.inl ?_; conv => whnf));refine call_sel (E := fun (x : Bool) => DV.one (D.b x)) h (fun x1 h1 => (i_InRange_ok N v0.mRows 2 6 h1)) (fun x1 hx1 h => ?_)
  (focus ((conv=>whnf);repeat ((first|refine zo _ ?_|refine zr _ rfl ?_|refine zn _ ?_|refine zs _ ?_|refine zd _ ?_|refine zw _ (by kernel_rfl) ?_);conv=>whnf)))
  refine br_sel h (fun _ h => ?_) (fun _ h => ?_)
  · (focus ((conv=>whnf);repeat ((first|refine zo _ ?_|refine zr _ rfl ?_|refine zn _ ?_|refine zs _ ?_|refine zd _ ?_|refine zw _ (by kernel_rfl) ?_);conv=>whnf)))
    obtain rfl := some_in h
    (first|rfl|exact Nat.le_of_ble_eq_true rfl|exact map_snoc _ _ _|exact map_put _ _ _ _|exact map_rep rfl|(simp [sub] <;> rfl))
  · (focus ((conv=>whnf);repeat ((first|refine zo _ ?_|refine zr _ rfl ?_|refine zn _ ?_|refine zs _ ?_|refine zd _ ?_|refine zw _ (by kernel_rfl) ?_);conv=>whnf)))
    (focus (refine Or.inl ?_; conv => whnf));refine call_sel (E := fun (x : Bool) => DV.one (D.b x)) h (fun x2 h1 => (i_InRange_ok N v0.mCols 2 6 h1)) (fun x2 hx2 h => ?_)
    (focus ((conv=>whnf);repeat ((first|refine zo _ ?_|refine zr _ rfl ?_|refine zn _ ?_|refine zs _ ?_|refine zd _ ?_|refine zw _ (by kernel_rfl) ?_);conv=>whnf)))
    refine br_sel h (fun _ h => ?_) (fun _ h => ?_)
    · (focus ((conv=>whnf);repeat ((first|refine zo _ ?_|refine zr _ rfl ?_|refine zn _ ?_|refine zs _ ?_|refine zd _ ?_|refine zw _ (by kernel_rfl) ?_);conv=>whnf)))
      obtain rfl := some_in h
      (first|rfl|exact Nat.le_of_ble_eq_true rfl|exact map_snoc _ _ _|exact map_put _ _ _ _|exact map_rep rfl|(simp [sub] <;> rfl))
    · (focus ((conv=>whnf);repeat ((first|refine zo _ ?_|refine zr _ rfl ?_|refine zn _ ?_|refine zs _ ?_|refine zd _ ?_|refine zw _ (by kernel_rfl) ?_);conv=>whnf)))
      refine len_sel (m := (v0.mCells.length : Int)) (by (first|rfl|simp [sub])) ?_
      (focus ((conv=>whnf);repeat ((first|refine zo _ ?_|refine zr _ rfl ?_|refine zn _ ?_|refine zs _ ?_|refine zd _ ?_|refine zw _ (by kernel_rfl) ?_);conv=>whnf)))
      refine br_sel h (fun _ h => ?_) (fun _ h => ?_)
      · (focus ((conv=>whnf);repeat ((first|refine zo _ ?_|refine zr _ rfl ?_|refine zn _ ?_|refine zs _ ?_|refine zd _ ?_|refine zw _ (by kernel_rfl) ?_);conv=>whnf)))
        obtain rfl := some_in h
        (first|rfl|exact Nat.le_of_ble_eq_true rfl|exact map_snoc _ _ _|exact map_put _ _ _ _|exact map_rep rfl|(simp [sub] <;> rfl))
      · (focus ((conv=>whnf);repeat ((first|refine zo _ ?_|refine zr _ rfl ?_|refine zn _ ?_|refine zd _ ?_|refine zw _ (by kernel_rfl) ?_);conv=>whnf)))
        obtain ⟨zt3, h, gt3⟩ := cutb_some h
        refine W.r_cut (fun (t3 : Unit) => ⟨[], [], 1000⟩) (fun t => .nx t = zt3) ?_ ?_
        · (focus ((conv=>whnf);repeat ((first|refine zo _ ?_|refine zr _ rfl ?_|refine zn _ ?_|refine zs _ ?_|refine zd _ ?_|refine zw _ (by kernel_rfl) ?_);conv=>whnf)))
          refine len_sel (m := (v0.mCells.length : Int)) (by (first|rfl|simp [sub])) ?_
          (focus ((conv=>whnf);repeat ((first|refine zo _ ?_|refine zr _ rfl ?_|refine zn _ ?_|refine zs _ ?_|refine zd _ ?_|refine zw _ (by kernel_rfl) ?_);conv=>whnf)))
          refine loop_lp (fun (p1 : Int) => ⟨[(1, .ptr 1 0 0), (27, .d (D.i (v0.mCells.length : Int))), (28, .d (D.i p1))], [(1, some (.box [.d (D.i v0.mRows), .d (D.i v0.mCols), .d (D.s v0.mCells)]))], 1000⟩) h ?_ ?_
          · (refine weak_go ?_;(repeat ((conv=>whnf);refine And.intro (by (first|rfl|exact Nat.le_of_ble_eq_true rfl|exact map_snoc _ _ _|exact map_put _ _ _ _|exact map_rep rfl|(simp [sub] <;> rfl))) ?_));(conv=>whnf);exact trivial)
          intro np1 p1 yp1 h hfp1
          unfold i_IsGrid_L1 at h
          (focus ((conv=>whnf);repeat ((first|refine zo _ ?_|refine zr _ rfl ?_|refine zn _ ?_|refine zs _ ?_|refine zd _ ?_|refine zw _ (by kernel_rfl) ?_);conv=>whnf)))
          refine br_sel h (fun _ h => ?_) (fun _ h => ?_)
          · (focus ((conv=>whnf);repeat ((first|refine zo _ ?_|refine zr _ rfl ?_|refine zn _ ?_|refine zs _ ?_|refine zd _ ?_|refine zw _ (by kernel_rfl) ?_);conv=>whnf)))
            refine chk_sel h (fun q => q) (fun h => ?_)
            (focus ((conv=>whnf);repeat ((first|refine zo _ ?_|refine zr _ rfl ?_|refine zn _ ?_|refine zs _ ?_|refine zd _ ?_|refine zw _ (by kernel_rfl) ?_);conv=>whnf)))
            refine br_sel h (fun _ h => ?_) (fun _ h => ?_)
            · (focus ((conv=>whnf);repeat ((first|refine zo _ ?_|refine zr _ rfl ?_|refine zn _ ?_|refine zs _ ?_|refine zd _ ?_|refine zw _ (by kernel_rfl) ?_);conv=>whnf)))
              refine chk_sel h (fun q => q) (fun h => ?_)
              (focus ((conv=>whnf);repeat ((first|refine zo _ ?_|refine zr _ rfl ?_|refine zn _ ?_|refine zs _ ?_|refine zd _ ?_|refine zw _ (by kernel_rfl) ?_);conv=>whnf)))
              refine br_sel h (fun _ h => ?_) (fun _ h => ?_)
              · (focus ((conv=>whnf);repeat ((first|refine zo _ ?_|refine zr _ rfl ?_|refine zn _ ?_|refine zs _ ?_|refine zd _ ?_|refine zw _ (by kernel_rfl) ?_);conv=>whnf)))
                obtain rfl := some_in h
                have h : some _ = some _ := congrArg some (show _ = _ from hfp1)
                obtain rfl := some_in h
                have h : some _ = some _ := congrArg some (show _ = _ from gt3)
                obtain rfl := some_in h
                (first|rfl|exact Nat.le_of_ble_eq_true rfl|exact map_snoc _ _ _|exact map_put _ _ _ _|exact map_rep rfl|(simp [sub] <;> rfl))
              · (focus ((conv=>whnf);repeat ((first|refine zo _ ?_|refine zr _ rfl ?_|refine zn _ ?_|refine zs _ ?_|refine zd _ ?_|refine zw _ (by kernel_rfl) ?_);conv=>whnf)))
                obtain rfl := some_in h
                refine loop_back hfp1 ?_
                (refine weak_go ?_;(repeat ((conv=>whnf);refine And.intro (by (first|rfl|exact Nat.le_of_ble_eq_true rfl|exact map_snoc _ _ _|exact map_put _ _ _ _|exact map_rep rfl|(simp [sub] <;> rfl))) ?_));(conv=>whnf);exact trivial)
            · (focus ((conv=>whnf);repeat ((first|refine zo _ ?_|refine zr _ rfl ?_|refine zn _ ?_|refine zs _ ?_|refine zd _ ?_|refine zw _ (by kernel_rfl) ?_);conv=>whnf)))
              obtain rfl := some_in h
              refine loop_back hfp1 ?_
              (refine weak_go ?_;(repeat ((conv=>whnf);refine And.intro (by (first|rfl|exact Nat.le_of_ble_eq_true rfl|exact map_snoc _ _ _|exact map_put _ _ _ _|exact map_rep rfl|(simp [sub] <;> rfl))) ?_));(conv=>whnf);exact trivial)
          · (focus ((conv=>whnf);repeat ((first|refine zo _ ?_|refine zr _ rfl ?_|refine zn _ ?_|refine zs _ ?_|refine zd _ ?_|refine zw _ (by kernel_rfl) ?_);conv=>whnf)))
            obtain rfl := some_in h
            have h : some _ = some _ := congrArg some (show _ = _ from hfp1)
            refine cut_at (()) (some_in h) ?_
            (refine weak_go ?_;(repeat ((conv=>whnf);refine And.intro (by (first|rfl|exact Nat.le_of_ble_eq_true rfl|exact map_snoc _ _ _|exact map_put _ _ _ _|exact map_rep rfl|(simp [sub] <;> rfl))) ?_));(conv=>whnf);exact trivial)
        rintro t3 rfl
        have h : _ = some _ := gt3
        (focus ((conv=>whnf);repeat ((first|refine zo _ ?_|refine zr _ rfl ?_|refine zn _ ?_|refine zs _ ?_|refine zd _ ?_|refine zw _ (by kernel_rfl) ?_);conv=>whnf)))
        obtain rfl := some_in h
        (first|rfl|exact Nat.le_of_ble_eq_true rfl|exact map_snoc _ _ _|exact map_put _ _ _ _|exact map_rep rfl|(simp [sub] <;> rfl))

theorem i_isLetter_ok (N : Nat) (v0 : Int) {r : Bool} (h : i_isLetter N v0 = some r) : Pure Tryz.prog 136 [DV.one (D.u8 v0)] (DV.one (D.b r)) := by
  refine pure_of_walk Tryz.tok Tryz.mixed Tryz.func136 (by kernel_rfl) fun W => ?_
  unfold i_isLetter at h
  (focus ((conv=>whnf);repeat ((first|refine zo _ ?_|refine zr _ rfl ?_|refine zn _ ?_|refine zs _ ?_|refine zd _ ?_|refine zw _ (by kernel_rfl) ?_);conv=>whnf)))
  refine br_sel h (fun _ h => ?_) (fun _ h => ?_)
  · (focus ((conv=>whnf);repeat ((first|refine zo _ ?_|refine zr _ rfl ?_|refine zn _ ?_|refine zs _ ?_|refine zd _ ?_|refine zw _ (by kernel_rfl) ?_);conv=>whnf)))
    obtain rfl := some_in h
    (first|rfl|exact Nat.le_of_ble_eq_true rfl|exact map_snoc _ _ _|exact map_put _ _ _ _|exact map_rep rfl|(simp [sub] <;> rfl))
  · (focus ((conv=>whnf);repeat ((first|refine zo _ ?_|refine zr _ rfl ?_|refine zn _ ?_|refine zs _ ?_|refine zd _ ?_|refine zw _ (by kernel_rfl) ?_);conv=>whnf)))
    obtain rfl := some_in h
    (first|rfl|exact Nat.le_of_ble_eq_true rfl|exact map_snoc _ _ _|exact map_put _ _ _ _|exact map_rep rfl|(simp [sub] <;> rfl))

theorem i_IsFill_ok (N : Nat) (v0 : Gx.Grid) (v1 : List UInt8) {r : Bool} (h : i_IsFill N v0 v1 = some r) : Pure Tryz.prog 137 [DV.agg (Gx.Grid.enc v0), DV.one (D.s v1)] (DV.one (D.b r)) := by
  refine pure_of_walk Tryz.tok Tryz.mixed Tryz.func137 (by kernel_rfl) fun W => ?_
  unfold i_IsFill at h
  (focus ((conv=>whnf);repeat ((first|refine zo _ ?_|refine zr _ rfl ?_|refine zn _ ?_|refine zs _ ?_|refine zd _ ?_|refine zw _ (by kernel_rfl) ?_);conv=>whnf)))
  (focus (refine Or.inl ?_; conv => whnf));refine call_sel (E := fun (x : Bool) => DV.one (D.b x)) h (fun x1 h1 => (i_IsGrid_ok N v0 h1)) (fun x1 hx1 h => ?_)
  (focus ((conv=>whnf);repeat ((first|refine zo _ ?_|refine zr _ rfl ?_|refine zn _ ?_|refine zs _ ?_|refine zd _ ?_|refine zw _ (by kernel_rfl) ?_);conv=>whnf)))
  refine br_sel h (fun _ h => ?_) (fun _ h => ?_)
  · (focus ((conv=>whnf);repeat ((first|refine zo _ ?_|refine zr _ rfl ?_|refine zn _ ?_|refine zs _ ?_|refine zd _ ?_|refine zw _ (by kernel_rfl) ?_);conv=>whnf)))
    obtain rfl := some_in h
    (first|rfl|exact Nat.le_of_ble_eq_true rfl|exact map_snoc _ _ _|exact map_put _ _ _ _|exact map_rep rfl|(simp [sub] <;> rfl))
  · (focus ((conv=>whnf);repeat ((first|refine zo _ ?_|refine zr _ rfl ?_|refine zn _ ?_|refine zs _ ?_|refine zd _ ?_|refine zw _ (by kernel_rfl) ?_);conv=>whnf)))
    refine len_sel (m := (v1.length : Int)) (by (first|rfl|simp [sub])) ?_
    (focus ((conv=>whnf);repeat ((first|refine zo _ ?_|refine zr _ rfl ?_|refine zn _ ?_|refine zs _ ?_|refine zd _ ?_|refine zw _ (by kernel_rfl) ?_);conv=>whnf)))
    refine len_sel (m := (v0.mCells.length : Int)) (by (first|rfl|simp [sub])) ?_
    (focus ((conv=>whnf);repeat ((first|refine zo _ ?_|refine zr _ rfl ?_|refine zn _ ?_|refine zs _ ?_|refine zd _ ?_|refine zw _ (by kernel_rfl) ?_);conv=>whnf)))
    refine br_sel h (fun _ h => ?_) (fun _ h => ?_)
    · (focus ((conv=>whnf);repeat ((first|refine zo _ ?_|refine zr _ rfl ?_|refine zn _ ?_|refine zs _ ?_|refine zd _ ?_|refine zw _ (by kernel_rfl) ?_);conv=>whnf)))
      obtain rfl := some_in h
      (first|rfl|exact Nat.le_of_ble_eq_true rfl|exact map_snoc _ _ _|exact map_put _ _ _ _|exact map_rep rfl|(simp [sub] <;> rfl))
    · (focus ((conv=>whnf);repeat ((first|refine zo _ ?_|refine zr _ rfl ?_|refine zn _ ?_|refine zd _ ?_|refine zw _ (by kernel_rfl) ?_);conv=>whnf)))
      obtain ⟨zt3, h, gt3⟩ := cutb_some h
      refine W.r_cut (fun (t3 : Unit) => ⟨[], [], 1000⟩) (fun t => .nx t = zt3) ?_ ?_
      · (focus ((conv=>whnf);repeat ((first|refine zo _ ?_|refine zr _ rfl ?_|refine zn _ ?_|refine zs _ ?_|refine zd _ ?_|refine zw _ (by kernel_rfl) ?_);conv=>whnf)))
        refine len_sel (m := (v1.length : Int)) (by (first|rfl|simp [sub])) ?_
        (focus ((conv=>whnf);repeat ((first|refine zo _ ?_|refine zr _ rfl ?_|refine zn _ ?_|refine zs _ ?_|refine zd _ ?_|refine zw _ (by kernel_rfl) ?_);conv=>whnf)))
        refine loop_lp (fun (p1 : Int) => ⟨[(1, .d (D.s v1)), (2, .ptr 1 0 0), (18, .d (D.i (v1.length : Int))), (19, .d (D.i p1))], [(1, some (.box [.d (D.i v0.mRows), .d (D.i v0.mCols), .d (D.s v0.mCells)]))], 1000⟩) h ?_ ?_
        · (refine weak_go ?_;(repeat ((conv=>whnf);refine And.intro (by (first|rfl|exact Nat.le_of_ble_eq_true rfl|exact map_snoc _ _ _|exact map_put _ _ _ _|exact map_rep rfl|(simp [sub] <;> rfl))) ?_));(conv=>whnf);exact trivial)
        intro np1 p1 yp1 h hfp1
        unfold i_IsFill_L1 at h
        (focus ((conv=>whnf);repeat ((first|refine zo _ ?_|refine zr _ rfl ?_|refine zn _ ?_|refine zs _ ?_|refine zd _ ?_|refine zw _ (by kernel_rfl) ?_);conv=>whnf)))
        refine br_sel h (fun _ h => ?_) (fun _ h => ?_)
        · (focus ((conv=>whnf);repeat ((first|refine zo _ ?_|refine zr _ rfl ?_|refine zn _ ?_|refine zs _ ?_|refine zd _ ?_|refine zw _ (by kernel_rfl) ?_);conv=>whnf)))
          refine chk_sel h (fun q => q) (fun h => ?_)
          (focus ((conv=>whnf);repeat ((first|refine zo _ ?_|refine zr _ rfl ?_|refine zn _ ?_|refine zs _ ?_|refine zd _ ?_|refine zw _ (by kernel_rfl) ?_);conv=>whnf)))
          refine chk_sel h (fun q => q) (fun h => ?_)
          (focus ((conv=>whnf);repeat ((first|refine zo _ ?_|refine zr _ rfl ?_|refine zn _ ?_|refine zs _ ?_|refine zd _ ?_|refine zw _ (by kernel_rfl) ?_);conv=>whnf)))
          refine br_sel h (fun _ h => ?_) (fun _ h => ?_)
          · (focus ((conv=>whnf);repeat ((first|refine zo _ ?_|refine zr _ rfl ?_|refine zn _ ?_|refine zs _ ?_|refine zd _ ?_|refine zw _ (by kernel_rfl) ?_);conv=>whnf)))
            obtain rfl := some_in h
            have h : some _ = some _ := congrArg some (show _ = _ from hfp1)
            obtain rfl := some_in h
            have h : some _ = some _ := congrArg some (show _ = _ from gt3)
            obtain rfl := some_in h
            (first|rfl|exact Nat.le_of_ble_eq_true rfl|exact map_snoc _ _ _|exact map_put _ _ _ _|exact map_rep rfl|(simp [sub] <;> rfl))
          · (focus ((conv=>whnf);repeat ((first|refine zo _ ?_|refine zr _ rfl ?_|refine zn _ ?_|refine zs _ ?_|refine zd _ ?_|refine zw _ (by kernel_rfl) ?_);conv=>whnf)))
            refine chk_sel h (fun q => q) (fun h => ?_)
            (focus ((conv=>whnf);repeat ((first|refine zo _ ?_|refine zr _ rfl ?_|refine zn _ ?_|refine zs _ ?_|refine zd _ ?_|refine zw _ (by kernel_rfl) ?_);conv=>whnf)))
            refine br_sel h (fun _ h => ?_) (fun _ h => ?_)
            · (focus ((conv=>whnf);repeat ((first|refine zo _ ?_|refine zr _ rfl ?_|refine zn _ ?_|refine zs _ ?_|refine zd _ ?_|refine zw _ (by kernel_rfl) ?_);conv=>whnf)))
              refine chk_sel h (fun q => q) (fun h => ?_)
              (focus ((conv=>whnf);repeat ((first|refine zo _ ?_|refine zr _ rfl ?_|refine zn _ ?_|refine zs _ ?_|refine zd _ ?_|refine zw _ (by kernel_rfl) ?_);conv=>whnf)))
              refine br_sel h (fun _ h => ?_) (fun _ h => ?_)
              · (focus ((conv=>whnf);repeat ((first|refine zo _ ?_|refine zr _ rfl ?_|refine zn _ ?_|refine zs _ ?_|refine zd _ ?_|refine zw _ (by kernel_rfl) ?_);conv=>whnf)))
                refine chk_sel h (fun q => q) (fun h => ?_)
                (focus ((conv=>whnf);repeat ((first|refine zo _ ?_|refine zr _ rfl ?_|refine zn _ ?_|refine zs _ ?_|refine zd _ ?_|refine zw _ (by kernel_rfl) ?_);conv=>whnf)))
                (focus (refine Or.inl ?_; conv => whnf));refine call_sel (E := fun (x : Bool) => DV.one (D.b x)) h (fun x2 h1 => (i_isLetter_ok N (byteI v1 p1) h1)) (fun x2 hx2 h => ?_)
                (focus ((conv=>whnf);repeat ((first|refine zo _ ?_|refine zr _ rfl ?_|refine zn _ ?_|refine zs _ ?_|refine zd _ ?_|refine zw _ (by kernel_rfl) ?_);conv=>whnf)))
                refine br_sel h (fun _ h => ?_) (fun _ h => ?_)
                · (focus ((conv=>whnf);repeat ((first|refine zo _ ?_|refine zr _ rfl ?_|refine zn _ ?_|refine zs _ ?_|refine zd _ ?_|refine zw _ (by kernel_rfl) ?_);conv=>whnf)))
                  obtain rfl := some_in h
                  have h : some _ = some _ := congrArg some (show _ = _ from hfp1)
                  obtain rfl := some_in h
                  have h : some _ = some _ := congrArg some (show _ = _ from gt3)
                  obtain rfl := some_in h
                  (first|rfl|exact Nat.le_of_ble_eq_true rfl|exact map_snoc _ _ _|exact map_put _ _ _ _|exact map_rep rfl|(simp [sub] <;> rfl))
                · (focus ((conv=>whnf);repeat ((first|refine zo _ ?_|refine zr _ rfl ?_|refine zn _ ?_|refine zs _ ?_|refine zd _ ?_|refine zw _ (by kernel_rfl) ?_);conv=>whnf)))
                  obtain rfl := some_in h
                  refine loop_back hfp1 ?_
                  (refine weak_go ?_;(repeat ((conv=>whnf);refine And.intro (by (first|rfl|exact Nat.le_of_ble_eq_true rfl|exact map_snoc _ _ _|exact map_put _ _ _ _|exact map_rep rfl|(simp [sub] <;> rfl))) ?_));(conv=>whnf);exact trivial)
              · (focus ((conv=>whnf);repeat ((first|refine zo _ ?_|refine zr _ rfl ?_|refine zn _ ?_|refine zs _ ?_|refine zd _ ?_|refine zw _ (by kernel_rfl) ?_);conv=>whnf)))
                obtain rfl := some_in h
                refine loop_back hfp1 ?_
                (refine weak_go ?_;(repeat ((conv=>whnf);refine And.intro (by (first|rfl|exact Nat.le_of_ble_eq_true rfl|exact map_snoc _ _ _|exact map_put _ _ _ _|exact map_rep rfl|(simp [sub] <;> rfl))) ?_));(conv=>whnf);exact trivial)
            · (focus ((conv=>whnf);repeat ((first|refine zo _ ?_|refine zr _ rfl ?_|refine zn _ ?_|refine zs _ ?_|refine zd _ ?_|refine zw _ (by kernel_rfl) ?_);conv=>whnf)))
              obtain rfl := some_in h
              refine loop_back hfp1 ?_
              (refine weak_go ?_;(repeat ((conv=>whnf);refine And.intro (by (first|rfl|exact Nat.le_of_ble_eq_true rfl|exact map_snoc _ _ _|exact map_put _ _ _ _|exact map_rep rfl|(simp [sub] <;> rfl))) ?_));(conv=>whnf);exact trivial)
        · (focus ((conv=>whnf);repeat ((first|refine zo _ ?_|refine zr _ rfl ?_|refine zn _ ?_|refine zs _ ?_|refine zd _ ?_|refine zw _ (by kernel_rfl) ?_);conv=>whnf)))
          obtain rfl := some_in h
          have h : some _ = some _ := congrArg some (show _ = _ from hfp1)
          refine cut_at (()) (some_in h) ?_
          (refine weak_go ?_;(repeat ((conv=>whnf);refine And.intro (by (first|rfl|exact Nat.le_of_ble_eq_true rfl|exact map_snoc _ _ _|exact map_put _ _ _ _|exact map_rep rfl|(simp [sub] <;> rfl))) ?_));(conv=>whnf);exact trivial)
      rintro t3 rfl
      have h : _ = some _ := gt3
      (focus ((conv=>whnf);repeat ((first|refine zo _ ?_|refine zr _ rfl ?_|refine zn _ ?_|refine zs _ ?_|refine zd _ ?_|refine zw _ (by kernel_rfl) ?_);conv=>whnf)))
      obtain rfl := some_in h
      (first|rfl|exact Nat.le_of_ble_eq_true rfl|exact map_snoc _ _ _|exact map_put _ _ _ _|exact map_rep rfl|(simp [sub] <;> rfl))

theorem i_run_ok (N : Nat) (v0 : Gx.Grid) (v1 : Int) (v2 : Bool) {r : Int} (h : i_run N v0 v1 v2 = some r) : Pure Tryz.prog 153 [DV.agg (Gx.Grid.enc v0), DV.one (D.i v1), DV.one (D.b v2)] (DV.one (D.i r)) := by
  refine pure_of_walk Tryz.tok Tryz.mixed Tryz.func153 (by kernel_rfl) fun W => ?_
  unfold i_run at h
  (focus ((conv=>whnf);repeat ((first|refine zo _ ?_|refine zr _ rfl ?_|refine zn _ ?_|refine zs _ ?_|refine zd _ ?_|refine zw _ (by kernel_rfl) ?_);conv=>whnf)))
  refine chk_sel h (fun q => q) (fun h => ?_)
  (focus ((conv=>whnf);repeat ((first|refine zo _ ?_|refine zr _ rfl ?_|refine zn _ ?_|refine zd _ ?_|refine zw _ (by kernel_rfl) ?_);conv=>whnf)))
  obtain ⟨zt1, h, gt1⟩ := bnd_some h
  refine W.r_cut (fun (t1 : Int × Int × Int) => ⟨[(1, .d (D.i v1)), (3, .ptr 1 0 0), (7, .d (D.i t1.1)), (8, .d (D.i t1.2.1)), (9, .d (D.i t1.2.2))], [(1, some (.box [.d (D.i v0.mRows), .d (D.i v0.mCols), .d (D.s v0.mCells)]))], 1000⟩) (fun t => t = zt1) ?_ ?_
  · (focus ((conv=>whnf);repeat ((first|refine zo _ ?_|refine zr _ rfl ?_|refine zn _ ?_|refine zs _ ?_|refine zd _ ?_|refine zw _ (by kernel_rfl) ?_);conv=>whnf)))
    refine br_sel h (fun _ h => ?_) (fun _ h => ?_)
    · (focus ((conv=>whnf);repeat ((first|refine zo _ ?_|refine zr _ rfl ?_|refine zn _ ?_|refine zs _ ?_|refine zd _ ?_|refine zw _ (by kernel_rfl) ?_);conv=>whnf)))
      refine chk_sel h (fun q => q) (fun h => ?_)
      (focus ((conv=>whnf);repeat ((first|refine zo _ ?_|refine zr _ rfl ?_|refine zn _ ?_|refine zs _ ?_|refine zd _ ?_|refine zw _ (by kernel_rfl) ?_);conv=>whnf)))
      refine cut_at ((v0.mCols, w64 (Int.tdiv v1 v0.mCols), v0.mRows)) (some_in h) ?_
      (refine weak_go ?_;(repeat ((conv=>whnf);refine And.intro (by (first|rfl|exact Nat.le_of_ble_eq_true rfl|exact map_snoc _ _ _|exact map_put _ _ _ _|exact map_rep rfl|(simp [sub] <;> rfl))) ?_));(conv=>whnf);exact trivial)
    · (focus ((conv=>whnf);repeat ((first|refine zo _ ?_|refine zr _ rfl ?_|refine zn _ ?_|refine zs _ ?_|refine zd _ ?_|refine zw _ (by kernel_rfl) ?_);conv=>whnf)))
      refine cut_at ((1, Int.tmod v1 v0.mCols, v0.mCols)) (some_in h) ?_
      (refine weak_go ?_;(repeat ((conv=>whnf);refine And.intro (by (first|rfl|exact Nat.le_of_ble_eq_true rfl|exact map_snoc _ _ _|exact map_put _ _ _ _|exact map_rep rfl|(simp [sub] <;> rfl))) ?_));(conv=>whnf);exact trivial)
  rintro t1 rfl
  have h : _ = some _ := gt1
  (focus ((conv=>whnf);repeat ((first|refine zo _ ?_|refine zr _ rfl ?_|refine zn _ ?_|refine zd _ ?_|refine zw _ (by kernel_rfl) ?_);conv=>whnf)))
  obtain ⟨zt2, h, gt2⟩ := cutb_some h
  refine W.r_cut (fun (t2 : Unit) => ⟨[(1, .d (D.i v1)), (3, .ptr 1 0 0), (7, .d (D.i t1.1)), (8, .d (D.i t1.2.1)), (9, .d (D.i t1.2.2))], [(1, some (.box [.d (D.i v0.mRows), .d (D.i v0.mCols), .d (D.s v0.mCells)]))], 1000⟩) (fun t => .nx t = zt2) ?_ ?_
  · (focus ((conv=>whnf);repeat ((first|refine zo _ ?_|refine zr _ rfl ?_|refine zn _ ?_|refine zs _ ?_|refine zd _ ?_|refine zw _ (by kernel_rfl) ?_);conv=>whnf)))
    refine chk_sel h (fun q => q) (fun h => ?_)
    (focus ((conv=>whnf);repeat ((first|refine zo _ ?_|refine zr _ rfl ?_|refine zn _ ?_|refine zs _ ?_|refine zd _ ?_|refine zw _ (by kernel_rfl) ?_);conv=>whnf)))
    refine br_sel h (fun _ h => ?_) (fun _ h => ?_)
    · (focus ((conv=>whnf);repeat ((first|refine zo _ ?_|refine zr _ rfl ?_|refine zn _ ?_|refine zs _ ?_|refine zd _ ?_|refine zw _ (by kernel_rfl) ?_);conv=>whnf)))
      obtain rfl := some_in h
      have h : some _ = some _ := congrArg some (show _ = _ from gt2)
      obtain rfl := some_in h
      (first|rfl|exact Nat.le_of_ble_eq_true rfl|exact map_snoc _ _ _|exact map_put _ _ _ _|exact map_rep rfl|(simp [sub] <;> rfl))
    · (focus ((conv=>whnf);repeat ((first|refine zo _ ?_|refine zr _ rfl ?_|refine zn _ ?_|refine zs _ ?_|refine zd _ ?_|refine zw _ (by kernel_rfl) ?_);conv=>whnf)))
      refine br_sel h (fun _ h => ?_) (fun _ h => ?_)
      · (focus ((conv=>whnf);repeat ((first|refine zo _ ?_|refine zr _ rfl ?_|refine zn _ ?_|refine zs _ ?_|refine zd _ ?_|refine zw _ (by kernel_rfl) ?_);conv=>whnf)))
        refine chk_sel h (fun q => q) (fun h => ?_)
        (focus ((conv=>whnf);repeat ((first|refine zo _ ?_|refine zr _ rfl ?_|refine zn _ ?_|refine zs _ ?_|refine zd _ ?_|refine zw _ (by kernel_rfl) ?_);conv=>whnf)))
        refine br_sel h (fun _ h => ?_) (fun _ h => ?_)
        · (focus ((conv=>whnf);repeat ((first|refine zo _ ?_|refine zr _ rfl ?_|refine zn _ ?_|refine zs _ ?_|refine zd _ ?_|refine zw _ (by kernel_rfl) ?_);conv=>whnf)))
          obtain rfl := some_in h
          have h : some _ = some _ := congrArg some (show _ = _ from gt2)
          obtain rfl := some_in h
          (first|rfl|exact Nat.le_of_ble_eq_true rfl|exact map_snoc _ _ _|exact map_put _ _ _ _|exact map_rep rfl|(simp [sub] <;> rfl))
        · (focus ((conv=>whnf);repeat ((first|refine zo _ ?_|refine zr _ rfl ?_|refine zn _ ?_|refine zs _ ?_|refine zd _ ?_|refine zw _ (by kernel_rfl) ?_);conv=>whnf)))
          refine cut_at (()) (some_in h) ?_
          (refine weak_go ?_;(repeat ((conv=>whnf);refine And.intro (by (first|rfl|exact Nat.le_of_ble_eq_true rfl|exact map_snoc _ _ _|exact map_put _ _ _ _|exact map_rep rfl|(simp [sub] <;> rfl))) ?_));(conv=>whnf);exact trivial)
      · (focus ((conv=>whnf);repeat ((first|refine zo _ ?_|refine zr _ rfl ?_|refine zn _ ?_|refine zs _ ?_|refine zd _ ?_|refine zw _ (by kernel_rfl) ?_);conv=>whnf)))
        refine cut_at (()) (some_in h) ?_
        (refine weak_go ?_;(repeat ((conv=>whnf);refine And.intro (by (first|rfl|exact Nat.le_of_ble_eq_true rfl|exact map_snoc _ _ _|exact map_put _ _ _ _|exact map_rep rfl|(simp [sub] <;> rfl))) ?_));(conv=>whnf);exact trivial)
  rintro t2 rfl
  have h : _ = some _ := gt2
  (focus ((conv=>whnf);repeat ((first|refine zo _ ?_|refine zr _ rfl ?_|refine zn _ ?_|refine zd _ ?_|refine zw _ (by kernel_rfl) ?_);conv=>whnf)))
  refine W.r_seq ?_
  (focus ((conv=>whnf);repeat ((first|refine zo _ ?_|refine zr _ rfl ?_|refine zn _ ?_|refine zd _ ?_|refine zw _ (by kernel_rfl) ?_);conv=>whnf)))
  obtain ⟨zt3, h, gt3⟩ := bnd_some h
  refine W.r_cut (fun (t3 : Int) => ⟨[(10, .d (D.i t3))], [], 1000⟩) (fun t => t = zt3) ?_ ?_
  · (focus ((conv=>whnf);repeat ((first|refine zo _ ?_|refine zr _ rfl ?_|refine zn _ ?_|refine zs _ ?_|refine zd _ ?_|refine zw _ (by kernel_rfl) ?_);conv=>whnf)))
    refine loop_lp (fun (p1 : Int) => ⟨[(1, .d (D.i v1)), (3, .ptr 1 0 0), (7, .d (D.i t1.1)), (8, .d (D.i t1.2.1)), (9, .d (D.i t1.2.2)), (10, .d (D.i p1))], [(1, some (.box [.d (D.i v0.mRows), .d (D.i v0.mCols), .d (D.s v0.mCells)]))], 1000⟩) h ?_ ?_
    · (refine weak_go ?_;(repeat ((conv=>whnf);refine And.intro (by (first|rfl|exact Nat.le_of_ble_eq_true rfl|exact map_snoc _ _ _|exact map_put _ _ _ _|exact map_rep rfl|(simp [sub] <;> rfl))) ?_));(conv=>whnf);exact trivial)
    intro np1 p1 yp1 h hfp1
    unfold i_run_L1 at h
    (focus ((conv=>whnf);repeat ((first|refine zo _ ?_|refine zr _ rfl ?_|refine zn _ ?_|refine zs _ ?_|refine zd _ ?_|refine zw _ (by kernel_rfl) ?_);conv=>whnf)))
    refine br_sel h (fun _ h => ?_) (fun _ h => ?_)
    · (focus ((conv=>whnf);repeat ((first|refine zo _ ?_|refine zr _ rfl ?_|refine zn _ ?_|refine zs _ ?_|refine zd _ ?_|refine zw _ (by kernel_rfl) ?_);conv=>whnf)))
      refine chk_sel h (fun q => q) (fun h => ?_)
      (focus ((conv=>whnf);repeat ((first|refine zo _ ?_|refine zr _ rfl ?_|refine zn _ ?_|refine zs _ ?_|refine zd _ ?_|refine zw _ (by kernel_rfl) ?_);conv=>whnf)))
      refine br_sel h (fun _ h => ?_) (fun _ h => ?_)
      · (focus ((conv=>whnf);repeat ((first|refine zo _ ?_|refine zr _ rfl ?_|refine zn _ ?_|refine zs _ ?_|refine zd _ ?_|refine zw _ (by kernel_rfl) ?_);conv=>whnf)))
        obtain rfl := some_in h
        refine loop_back hfp1 ?_
        (refine weak_go ?_;(repeat ((conv=>whnf);refine And.intro (by (first|rfl|exact Nat.le_of_ble_eq_true rfl|exact map_snoc _ _ _|exact map_put _ _ _ _|exact map_rep rfl|(simp [sub] <;> rfl))) ?_));(conv=>whnf);exact trivial)
      · (focus ((conv=>whnf);repeat ((first|refine zo _ ?_|refine zr _ rfl ?_|refine zn _ ?_|refine zs _ ?_|refine zd _ ?_|refine zw _ (by kernel_rfl) ?_);conv=>whnf)))
        obtain rfl := some_in h
        have h : some _ = some _ := congrArg some (show _ = _ from hfp1)
        refine cut_at (p1) (some_in h) ?_
        (refine weak_go ?_;(repeat ((conv=>whnf);refine And.intro (by (first|rfl|exact Nat.le_of_ble_eq_true rfl|exact map_snoc _ _ _|exact map_put _ _ _ _|exact map_rep rfl|(simp [sub] <;> rfl))) ?_));(conv=>whnf);exact trivial)
    · (focus ((conv=>whnf);repeat ((first|refine zo _ ?_|refine zr _ rfl ?_|refine zn _ ?_|refine zs _ ?_|refine zd _ ?_|refine zw _ (by kernel_rfl) ?_);conv=>whnf)))
      obtain rfl := some_in h
      have h : some _ = some _ := congrArg some (show _ = _ from hfp1)
      refine cut_at (p1) (some_in h) ?_
      (refine weak_go ?_;(repeat ((conv=>whnf);refine And.intro (by (first|rfl|exact Nat.le_of_ble_eq_true rfl|exact map_snoc _ _ _|exact map_put _ _ _ _|exact map_rep rfl|(simp [sub] <;> rfl))) ?_));(conv=>whnf);exact trivial)
  rintro t3 rfl
  have h : _ = some _ := gt3
  (focus ((conv=>whnf);repeat ((first|refine zo _ ?_|refine zr _ rfl ?_|refine zn _ ?_|refine zs _ ?_|refine zd _ ?_|refine zw _ (by kernel_rfl) ?_);conv=>whnf)))
  obtain rfl := some_in h
  (first|rfl|exact Nat.le_of_ble_eq_true rfl|exact map_snoc _ _ _|exact map_put _ _ _ _|exact map_rep rfl|(simp [sub] <;> rfl))

theorem i_SlotsOf_ok (N : Nat) (v0 : Gx.Grid) {r : (List (Gx.Slot))} (h : i_SlotsOf N v0 = some r) : Pure Tryz.prog 120 [DV.agg (Gx.Grid.enc v0)] (DV.one (D.sl 4 (List.map Gx.Slot.enc r))) := by
  refine pure_of_walk Tryz.tok Tryz.mixed Tryz.func120 (by kernel_rfl) fun W => ?_
  unfold i_SlotsOf at h
  (focus ((conv=>whnf);repeat ((first|refine zo _ ?_|refine zr _ rfl ?_|refine zn _ ?_|refine zs _ ?_|refine zd _ ?_|refine zw _ (by kernel_rfl) ?_);conv=>whnf)))
  (focus (refine Or.inl ?_; conv => whnf));refine call_sel (E := fun (x : Bool) => DV.one (D.b x)) h (fun x1 h1 => (i_IsGrid_ok N v0 h1)) (fun x1 hx1 h => ?_)
  (focus ((conv=>whnf);repeat ((first|refine zo _ ?_|refine zr _ rfl ?_|refine zn _ ?_|refine zs _ ?_|refine zd _ ?_|refine zw _ (by kernel_rfl) ?_);conv=>whnf)))
  refine br_sel h (fun _ h => ?_) (fun _ h => ?_)
  · (focus ((conv=>whnf);repeat ((first|refine zo _ ?_|refine zr _ rfl ?_|refine zn _ ?_|refine zs _ ?_|refine zd _ ?_|refine zw _ (by kernel_rfl) ?_);conv=>whnf)))
    obtain rfl := some_in h
    (first|rfl|exact Nat.le_of_ble_eq_true rfl|exact map_snoc _ _ _|exact map_put _ _ _ _|exact map_rep rfl|(simp [sub] <;> rfl))
  · (focus ((conv=>whnf);repeat ((first|refine zo _ ?_|refine zr _ rfl ?_|refine zn _ ?_|refine zd _ ?_|refine zw _ (by kernel_rfl) ?_);conv=>whnf)))
    refine W.r_seq ?_
    (focus ((conv=>whnf);repeat ((first|refine zo _ ?_|refine zr _ rfl ?_|refine zn _ ?_|refine zd _ ?_|refine zw _ (by kernel_rfl) ?_);conv=>whnf)))
    refine W.r_seq ?_
    (focus ((conv=>whnf);repeat ((first|refine zo _ ?_|refine zr _ rfl ?_|refine zn _ ?_|refine zd _ ?_|refine zw _ (by kernel_rfl) ?_);conv=>whnf)))
    obtain ⟨zt6, h, gt6⟩ := bnd_some h
    refine W.r_cut (fun (t6 : (List (Gx.Slot))) => ⟨[(3, .sl 1)], [(1, some (.arr 4 (List.map Gx.Slot.enc t6) true))], 1000⟩) (fun t => t = zt6) ?_ ?_
    · (focus ((conv=>whnf);repeat ((first|refine zo _ ?_|refine zr _ rfl ?_|refine zn _ ?_|refine zs _ ?_|refine zd _ ?_|refine zw _ (by kernel_rfl) ?_);conv=>whnf)))
      refine len_sel (m := (v0.mCells.length : Int)) (by (first|rfl|simp [sub])) ?_
      (focus ((conv=>whnf);repeat ((first|refine zo _ ?_|refine zr _ rfl ?_|refine zn _ ?_|refine zs _ ?_|refine zd _ ?_|refine zw _ (by kernel_rfl) ?_);conv=>whnf)))
      refine loop_lp (fun (p1 : (List (Gx.Slot)) × Int × Int) => ⟨[(1, .ptr 1 0 0), (3, .sl 2), (4, .d (D.i p1.2.1)), (13, .d (D.i (v0.mCells.length : Int))), (14, .d (D.i p1.2.2))], [(1, some (.box [.d (D.i v0.mRows), .d (D.i v0.mCols), .d (D.s v0.mCells)])), (2, some (.arr 4 (List.map Gx.Slot.enc p1.1) true))], 1000⟩) h ?_ ?_
      · (refine weak_go ?_;(repeat ((conv=>whnf);refine And.intro (by (first|rfl|exact Nat.le_of_ble_eq_true rfl|exact map_snoc _ _ _|exact map_put _ _ _ _|exact map_rep rfl|(simp [sub] <;> rfl))) ?_));(conv=>whnf);exact trivial)
      intro np1 p1 yp1 h hfp1
      unfold i_SlotsOf_L1 at h
      (focus ((conv=>whnf);repeat ((first|refine zo _ ?_|refine zr _ rfl ?_|refine zn _ ?_|refine zs _ ?_|refine zd _ ?_|refine zw _ (by kernel_rfl) ?_);conv=>whnf)))
      refine br_sel h (fun _ h => ?_) (fun _ h => ?_)
      · (focus ((conv=>whnf);repeat ((first|refine zo _ ?_|refine zr _ rfl ?_|refine zn _ ?_|refine zs _ ?_|refine zd _ ?_|refine zw _ (by kernel_rfl) ?_);conv=>whnf)))
        (focus (refine Or.inl ?_; conv => whnf));refine call_sel (E := fun (x : Int) => DV.one (D.i x)) h (fun x2 h1 => (i_run_ok N v0 p1.2.2 false h1)) (fun x2 hx2 h => ?_)
        (focus ((conv=>whnf);repeat ((first|refine zo _ ?_|refine zr _ rfl ?_|refine zn _ ?_|refine zs _ ?_|refine zd _ ?_|refine zw _ (by kernel_rfl) ?_);conv=>whnf)))
        (focus (refine Or.inl ?_; conv => whnf));refine call_sel (E := fun (x : Int) => DV.one (D.i x)) h (fun x3 h1 => (i_run_ok N v0 p1.2.2 true h1)) (fun x3 hx3 h => ?_)
        (focus ((conv=>whnf);repeat ((first|refine zo _ ?_|refine zr _ rfl ?_|refine zn _ ?_|refine zd _ ?_|refine zw _ (by kernel_rfl) ?_);conv=>whnf)))
        obtain ⟨zt4, h, gt4⟩ := bnd_some h
        refine W.r_cut (fun (t4 : Int) => ⟨[(1, .ptr 1 0 0), (3, .sl 2), (4, .d (D.i t4)), (5, .d (D.i p1.2.2)), (6, .d (D.i x2)), (7, .d (D.i x3)), (13, .d (D.i (v0.mCells.length : Int))), (14, .d (D.i p1.2.2))], [(1, some (.box [.d (D.i v0.mRows), .d (D.i v0.mCols), .d (D.s v0.mCells)])), (2, some (.arr 4 (List.map Gx.Slot.enc p1.1) true))], 1000⟩) (fun t => t = zt4) ?_ ?_
        · (focus ((conv=>whnf);repeat ((first|refine zo _ ?_|refine zr _ rfl ?_|refine zn _ ?_|refine zs _ ?_|refine zd _ ?_|refine zw _ (by kernel_rfl) ?_);conv=>whnf)))
          refine br_sel h (fun _ h => ?_) (fun _ h => ?_)
          · (focus ((conv=>whnf);repeat ((first|refine zo _ ?_|refine zr _ rfl ?_|refine zn _ ?_|refine zs _ ?_|refine zd _ ?_|refine zw _ (by kernel_rfl) ?_);conv=>whnf)))
            refine cut_at (w64 (p1.2.1 + 1)) (some_in h) ?_
            (refine weak_go ?_;(repeat ((conv=>whnf);refine And.intro (by (first|rfl|exact Nat.le_of_ble_eq_true rfl|exact map_snoc _ _ _|exact map_put _ _ _ _|exact map_rep rfl|(simp [sub] <;> rfl))) ?_));(conv=>whnf);exact trivial)
          · (focus ((conv=>whnf);repeat ((first|refine zo _ ?_|refine zr _ rfl ?_|refine zn _ ?_|refine zs _ ?_|refine zd _ ?_|refine zw _ (by kernel_rfl) ?_);conv=>whnf)))
            refine br_sel h (fun _ h => ?_) (fun _ h => ?_)
            · (focus ((conv=>whnf);repeat ((first|refine zo _ ?_|refine zr _ rfl ?_|refine zn _ ?_|refine zs _ ?_|refine zd _ ?_|refine zw _ (by kernel_rfl) ?_);conv=>whnf)))
              refine cut_at (w64 (p1.2.1 + 1)) (some_in h) ?_
              (refine weak_go ?_;(repeat ((conv=>whnf);refine And.intro (by (first|rfl|exact Nat.le_of_ble_eq_true rfl|exact map_snoc _ _ _|exact map_put _ _ _ _|exact map_rep rfl|(simp [sub] <;> rfl))) ?_));(conv=>whnf);exact trivial)
            · (focus ((conv=>whnf);repeat ((first|refine zo _ ?_|refine zr _ rfl ?_|refine zn _ ?_|refine zs _ ?_|refine zd _ ?_|refine zw _ (by kernel_rfl) ?_);conv=>whnf)))
              refine cut_at (p1.2.1) (some_in h) ?_
              (refine weak_go ?_;(repeat ((conv=>whnf);refine And.intro (by (first|rfl|exact Nat.le_of_ble_eq_true rfl|exact map_snoc _ _ _|exact map_put _ _ _ _|exact map_rep rfl|(simp [sub] <;> rfl))) ?_));(conv=>whnf);exact trivial)
        rintro t4 rfl
        have h : _ = some _ := gt4
        (focus ((conv=>whnf);repeat ((first|refine zo _ ?_|refine zr _ rfl ?_|refine zn _ ?_|refine zd _ ?_|refine zw _ (by kernel_rfl) ?_);conv=>whnf)))
        obtain ⟨zt5, h, gt5⟩ := bnd_some h
        refine W.r_cut (fun (t5 : (List (Gx.Slot))) => ⟨[(1, .ptr 1 0 0), (3, .sl 2), (4, .d (D.i t4)), (5, .d (D.i p1.2.2)), (7, .d (D.i x3)), (13, .d (D.i (v0.mCells.length : Int))), (14, .d (D.i p1.2.2))], [(1, some (.box [.d (D.i v0.mRows), .d (D.i v0.mCols), .d (D.s v0.mCells)])), (2, some (.arr 4 (List.map Gx.Slot.enc t5) true))], 1000⟩) (fun t => t = zt5) ?_ ?_
        · (focus ((conv=>whnf);repeat ((first|refine zo _ ?_|refine zr _ rfl ?_|refine zn _ ?_|refine zs _ ?_|refine zd _ ?_|refine zw _ (by kernel_rfl) ?_);conv=>whnf)))
          refine br_sel h (fun _ h => ?_) (fun _ h => ?_)
          · (focus ((conv=>whnf);repeat ((first|refine zo _ ?_|refine zr _ rfl ?_|refine zn _ ?_|refine zs _ ?_|refine zd _ ?_|refine zw _ (by kernel_rfl) ?_);conv=>whnf)))
            refine app_sel h (app_ok (by (first|rfl|simp [sub])) (by (first|rfl|simp [sub])) (by decide)) (by (intro h; cases h)) (fun h => ?_)
            (focus ((conv=>whnf);repeat ((first|refine zo _ ?_|refine zr _ rfl ?_|refine zn _ ?_|refine zs _ ?_|refine zd _ ?_|refine zw _ (by kernel_rfl) ?_);conv=>whnf)))
            refine cut_at (p1.1 ++ ([(⟨t4, false, p1.2.2, x2⟩ : Gx.Slot)])) (some_in h) ?_
            (refine weak_go ?_;(repeat ((conv=>whnf);refine And.intro (by (first|rfl|exact Nat.le_of_ble_eq_true rfl|exact map_snoc _ _ _|exact map_put _ _ _ _|exact map_rep rfl|(simp [sub] <;> rfl))) ?_));(conv=>whnf);exact trivial)
          · (focus ((conv=>whnf);repeat ((first|refine zo _ ?_|refine zr _ rfl ?_|refine zn _ ?_|refine zs _ ?_|refine zd _ ?_|refine zw _ (by kernel_rfl) ?_);conv=>whnf)))
            refine cut_at (p1.1) (some_in h) ?_
            (refine weak_go ?_;(repeat ((conv=>whnf);refine And.intro (by (first|rfl|exact Nat.le_of_ble_eq_true rfl|exact map_snoc _ _ _|exact map_put _ _ _ _|exact map_rep rfl|(simp [sub] <;> rfl))) ?_));(conv=>whnf);exact trivial)
        rintro t5 rfl
        have h : _ = some _ := gt5
        (focus ((conv=>whnf);repeat ((first|refine zo _ ?_|refine zr _ rfl ?_|refine zn _ ?_|refine zs _ ?_|refine zd _ ?_|refine zw _ (by kernel_rfl) ?_);conv=>whnf)))
        refine br_sel h (fun _ h => ?_) (fun _ h => ?_)
        · (focus ((conv=>whnf);repeat ((first|refine zo _ ?_|refine zr _ rfl ?_|refine zn _ ?_|refine zs _ ?_|refine zd _ ?_|refine zw _ (by kernel_rfl) ?_);conv=>whnf)))
          refine app_sel h (app_ok (by (first|rfl|simp [sub])) (by (first|rfl|simp [sub])) (by decide)) (by (intro h; cases h)) (fun h => ?_)
          (focus ((conv=>whnf);repeat ((first|refine zo _ ?_|refine zr _ rfl ?_|refine zn _ ?_|refine zs _ ?_|refine zd _ ?_|refine zw _ (by kernel_rfl) ?_);conv=>whnf)))
          obtain rfl := some_in h
          refine loop_back hfp1 ?_
          (refine weak_go ?_;(repeat ((conv=>whnf);refine And.intro (by (first|rfl|exact Nat.le_of_ble_eq_true rfl|exact map_snoc _ _ _|exact map_put _ _ _ _|exact map_rep rfl|(simp [sub] <;> rfl))) ?_));(conv=>whnf);exact trivial)
        · (focus ((conv=>whnf);repeat ((first|refine zo _ ?_|refine zr _ rfl ?_|refine zn _ ?_|refine zs _ ?_|refine zd _ ?_|refine zw _ (by kernel_rfl) ?_);conv=>whnf)))
          obtain rfl := some_in h
          refine loop_back hfp1 ?_
          (refine weak_go ?_;(repeat ((conv=>whnf);refine And.intro (by (first|rfl|exact Nat.le_of_ble_eq_true rfl|exact map_snoc _ _ _|exact map_put _ _ _ _|exact map_rep rfl|(simp [sub] <;> rfl))) ?_));(conv=>whnf);exact trivial)
      · (focus ((conv=>whnf);repeat ((first|refine zo _ ?_|refine zr _ rfl ?_|refine zn _ ?_|refine zs _ ?_|refine zd _ ?_|refine zw _ (by kernel_rfl) ?_);conv=>whnf)))
        obtain rfl := some_in h
        have h : some _ = some _ := congrArg some (show _ = _ from hfp1)
        refine cut_at (p1.1) (some_in h) ?_
        (refine weak_go ?_;(repeat ((conv=>whnf);refine And.intro (by (first|rfl|exact Nat.le_of_ble_eq_true rfl|exact map_snoc _ _ _|exact map_put _ _ _ _|exact map_rep rfl|(simp [sub] <;> rfl))) ?_));(conv=>whnf);exact trivial)
    rintro t6 rfl
    have h : _ = some _ := gt6
    (focus ((conv=>whnf);repeat ((first|refine zo _ ?_|refine zr _ rfl ?_|refine zn _ ?_|refine zs _ ?_|refine zd _ ?_|refine zw _ (by kernel_rfl) ?_);conv=>whnf)))
    obtain rfl := some_in h
    (first|rfl|exact Nat.le_of_ble_eq_true rfl|exact map_snoc _ _ _|exact map_put _ _ _ _|exact map_rep rfl|(simp [sub] <;> rfl))

theorem i_cells_ok (N : Nat) (v0 : Gx.Grid) (v1 : Gx.Slot) {r : (List (Int))} (h : i_cells N v0 v1 = some r) : Pure Tryz.prog 162 [DV.agg (Gx.Grid.enc v0), DV.agg (Gx.Slot.enc v1)] (DV.one (D.sl 1 (List.map Gx.encI r))) := by
  refine pure_of_walk Tryz.tok Tryz.mixed Tryz.func162 (by kernel_rfl) fun W => ?_
  unfold i_cells at h
  (focus ((conv=>whnf);repeat ((first|refine zo _ ?_|refine zr _ rfl ?_|refine zn _ ?_|refine zd _ ?_|refine zw _ (by kernel_rfl) ?_);conv=>whnf)))
  refine W.r_seq ?_
  (focus ((conv=>whnf);repeat ((first|refine zo _ ?_|refine zr _ rfl ?_|refine zn _ ?_|refine zd _ ?_|refine zw _ (by kernel_rfl) ?_);conv=>whnf)))
  refine W.r_seq ?_
  (focus ((conv=>whnf);repeat ((first|refine zo _ ?_|refine zr _ rfl ?_|refine zn _ ?_|refine zd _ ?_|refine zw _ (by kernel_rfl) ?_);conv=>whnf)))
  obtain ⟨zt1, h, gt1⟩ := bnd_some h
  refine W.r_cut (fun (t1 : Int) => ⟨[(3, .ptr 1 0 0), (5, .d (D.i t1))], [(1, some (.box [.d (D.i v1.mNumber), .d (D.b v1.mDown), .d (D.i v1.mCell), .d (D.i v1.mLength)]))], 1000⟩) (fun t => t = zt1) ?_ ?_
  · (focus ((conv=>whnf);repeat ((first|refine zo _ ?_|refine zr _ rfl ?_|refine zn _ ?_|refine zs _ ?_|refine zd _ ?_|refine zw _ (by kernel_rfl) ?_);conv=>whnf)))
    refine br_sel h (fun _ h => ?_) (fun _ h => ?_)
    · (focus ((conv=>whnf);repeat ((first|refine zo _ ?_|refine zr _ rfl ?_|refine zn _ ?_|refine zs _ ?_|refine zd _ ?_|refine zw _ (by kernel_rfl) ?_);conv=>whnf)))
      refine cut_at (v0.mCols) (some_in h) ?_
      (refine weak_go ?_;(repeat ((conv=>whnf);refine And.intro (by (first|rfl|exact Nat.le_of_ble_eq_true rfl|exact map_snoc _ _ _|exact map_put _ _ _ _|exact map_rep rfl|(simp [sub] <;> rfl))) ?_));(conv=>whnf);exact trivial)
    · (focus ((conv=>whnf);repeat ((first|refine zo _ ?_|refine zr _ rfl ?_|refine zn _ ?_|refine zs _ ?_|refine zd _ ?_|refine zw _ (by kernel_rfl) ?_);conv=>whnf)))
      refine cut_at (1) (some_in h) ?_
      (refine weak_go ?_;(repeat ((conv=>whnf);refine And.intro (by (first|rfl|exact Nat.le_of_ble_eq_true rfl|exact map_snoc _ _ _|exact map_put _ _ _ _|exact map_rep rfl|(simp [sub] <;> rfl))) ?_));(conv=>whnf);exact trivial)
  rintro t1 rfl
  have h : _ = some _ := gt1
  (focus ((conv=>whnf);repeat ((first|refine zo _ ?_|refine zr _ rfl ?_|refine zn _ ?_|refine zd _ ?_|refine zw _ (by kernel_rfl) ?_);conv=>whnf)))
  refine W.r_seq ?_
  (focus ((conv=>whnf);repeat ((first|refine zo _ ?_|refine zr _ rfl ?_|refine zn _ ?_|refine zd _ ?_|refine zw _ (by kernel_rfl) ?_);conv=>whnf)))
  obtain ⟨zt2, h, gt2⟩ := bnd_some h
  refine W.r_cut (fun (t2 : (List (Int))) => ⟨[(6, .sl 1)], [(1, some (.arr 1 (List.map Gx.encI t2) true))], 1000⟩) (fun t => t = zt2) ?_ ?_
  · (focus ((conv=>whnf);repeat ((first|refine zo _ ?_|refine zr _ rfl ?_|refine zn _ ?_|refine zs _ ?_|refine zd _ ?_|refine zw _ (by kernel_rfl) ?_);conv=>whnf)))
    refine loop_lp (fun (p1 : (List (Int)) × Int) => ⟨[(3, .ptr 1 0 0), (5, .d (D.i t1)), (6, .sl 2), (13, .d (D.i v1.mLength)), (14, .d (D.i p1.2))], [(1, some (.box [.d (D.i v1.mNumber), .d (D.b v1.mDown), .d (D.i v1.mCell), .d (D.i v1.mLength)])), (2, some (.arr 1 (List.map Gx.encI p1.1) true))], 1000⟩) h ?_ ?_
    · (refine weak_go ?_;(repeat ((conv=>whnf);refine And.intro (by (first|rfl|exact Nat.le_of_ble_eq_true rfl|exact map_snoc _ _ _|exact map_put _ _ _ _|exact map_rep rfl|(simp [sub] <;> rfl))) ?_));(conv=>whnf);exact trivial)
    intro np1 p1 yp1 h hfp1
    unfold i_cells_L1 at h
    (focus ((conv=>whnf);repeat ((first|refine zo _ ?_|refine zr _ rfl ?_|refine zn _ ?_|refine zs _ ?_|refine zd _ ?_|refine zw _ (by kernel_rfl) ?_);conv=>whnf)))
    refine br_sel h (fun _ h => ?_) (fun _ h => ?_)
    · (focus ((conv=>whnf);repeat ((first|refine zo _ ?_|refine zr _ rfl ?_|refine zn _ ?_|refine zs _ ?_|refine zd _ ?_|refine zw _ (by kernel_rfl) ?_);conv=>whnf)))
      refine app_sel h (app_ok (by (first|rfl|simp [sub])) (by (first|rfl|simp [sub])) (by decide)) (by (intro h; cases h)) (fun h => ?_)
      (focus ((conv=>whnf);repeat ((first|refine zo _ ?_|refine zr _ rfl ?_|refine zn _ ?_|refine zs _ ?_|refine zd _ ?_|refine zw _ (by kernel_rfl) ?_);conv=>whnf)))
      obtain rfl := some_in h
      refine loop_back hfp1 ?_
      (refine weak_go ?_;(repeat ((conv=>whnf);refine And.intro (by (first|rfl|exact Nat.le_of_ble_eq_true rfl|exact map_snoc _ _ _|exact map_put _ _ _ _|exact map_rep rfl|(simp [sub] <;> rfl))) ?_));(conv=>whnf);exact trivial)
    · (focus ((conv=>whnf);repeat ((first|refine zo _ ?_|refine zr _ rfl ?_|refine zn _ ?_|refine zs _ ?_|refine zd _ ?_|refine zw _ (by kernel_rfl) ?_);conv=>whnf)))
      obtain rfl := some_in h
      have h : some _ = some _ := congrArg some (show _ = _ from hfp1)
      refine cut_at (p1.1) (some_in h) ?_
      (refine weak_go ?_;(repeat ((conv=>whnf);refine And.intro (by (first|rfl|exact Nat.le_of_ble_eq_true rfl|exact map_snoc _ _ _|exact map_put _ _ _ _|exact map_rep rfl|(simp [sub] <;> rfl))) ?_));(conv=>whnf);exact trivial)
  rintro t2 rfl
  have h : _ = some _ := gt2
  (focus ((conv=>whnf);repeat ((first|refine zo _ ?_|refine zr _ rfl ?_|refine zn _ ?_|refine zs _ ?_|refine zd _ ?_|refine zw _ (by kernel_rfl) ?_);conv=>whnf)))
  obtain rfl := some_in h
  (first|rfl|exact Nat.le_of_ble_eq_true rfl|exact map_snoc _ _ _|exact map_put _ _ _ _|exact map_rep rfl|(simp [sub] <;> rfl))

theorem i_layout_ok (N : Nat) (v0 : Gx.Grid) {r : (List (List (Int)))} (h : i_layout N v0 = some r) : Pure Tryz.prog 138 [DV.agg (Gx.Grid.enc v0)] (DV.one (D.sl 1 (List.map (Gx.encL 1 Gx.encI) r))) := by
  refine pure_of_walk Tryz.tok Tryz.mixed Tryz.func138 (by kernel_rfl) fun W => ?_
  unfold i_layout at h
  (focus ((conv=>whnf);repeat ((first|refine zo _ ?_|refine zr _ rfl ?_|refine zn _ ?_|refine zd _ ?_|refine zw _ (by kernel_rfl) ?_);conv=>whnf)))
  refine W.r_seq ?_
  (focus ((conv=>whnf);repeat ((first|refine zo _ ?_|refine zr _ rfl ?_|refine zn _ ?_|refine zd _ ?_|refine zw _ (by kernel_rfl) ?_);conv=>whnf)))
  refine W.r_seq ?_
  (focus ((conv=>whnf);repeat ((first|refine zo _ ?_|refine zr _ rfl ?_|refine zn _ ?_|refine zd _ ?_|refine zw _ (by kernel_rfl) ?_);conv=>whnf)))
  obtain ⟨zt4, h, gt4⟩ := bnd_some h
  refine W.r_cut (fun (t4 : (List (List (Int)))) => ⟨[(3, .sl 1)], [(1, some (.arr 1 (List.map (Gx.encL 1 Gx.encI) t4) true))], 1000⟩) (fun t => t = zt4) ?_ ?_
  · (focus ((conv=>whnf);repeat ((first|refine zo _ ?_|refine zr _ rfl ?_|refine zn _ ?_|refine zs _ ?_|refine zd _ ?_|refine zw _ (by kernel_rfl) ?_);conv=>whnf)))
    (focus (refine Or.inl ?_; conv => whnf));refine call_sel (E := fun (x : (List (Gx.Slot))) => DV.one (D.sl 4 (List.map Gx.Slot.enc x))) h (fun x1 h1 => (i_SlotsOf_ok N v0 h1)) (fun x1 hx1 h => ?_)
    (focus ((conv=>whnf);repeat ((first|refine zo _ ?_|refine zr _ rfl ?_|refine zn _ ?_|refine zs _ ?_|refine zd _ ?_|refine zw _ (by kernel_rfl) ?_);conv=>whnf)))
    refine len_sel (m := (x1.length : Int)) (by (first|rfl|simp [sub])) ?_
    (focus ((conv=>whnf);repeat ((first|refine zo _ ?_|refine zr _ rfl ?_|refine zn _ ?_|refine zs _ ?_|refine zd _ ?_|refine zw _ (by kernel_rfl) ?_);conv=>whnf)))
    refine loop_lp (fun (p1 : (List (List (Int))) × Int) => ⟨[(1, .ptr 1 0 0), (3, .sl 2), (7, .sl 3), (8, .d (D.i (x1.length : Int))), (9, .d (D.i p1.2))], [(1, some (.box [.d (D.i v0.mRows), .d (D.i v0.mCols), .d (D.s v0.mCells)])), (2, some (.arr 1 (List.map (Gx.encL 1 Gx.encI) p1.1) true)), (3, some (.arr 4 (List.map Gx.Slot.enc x1) true))], 1000⟩) h ?_ ?_
    · (refine weak_go ?_;(repeat ((conv=>whnf);refine And.intro (by (first|rfl|exact Nat.le_of_ble_eq_true rfl|exact map_snoc _ _ _|exact map_put _ _ _ _|exact map_rep rfl|(simp [sub] <;> rfl))) ?_));(conv=>whnf);exact trivial)
    intro np1 p1 yp1 h hfp1
    unfold i_layout_L1 at h
    (focus ((conv=>whnf);repeat ((first|refine zo _ ?_|refine zr _ rfl ?_|refine zn _ ?_|refine zs _ ?_|refine zd _ ?_|refine zw _ (by kernel_rfl) ?_);conv=>whnf)))
    refine br_sel h (fun _ h => ?_) (fun _ h => ?_)
    · (focus ((conv=>whnf);repeat ((first|refine zo _ ?_|refine zr _ rfl ?_|refine zn _ ?_|refine zs _ ?_|refine zd _ ?_|refine zw _ (by kernel_rfl) ?_);conv=>whnf)))
      refine idxp_sel h (fun x2 hx2 h => ?_)
      (focus ((conv=>whnf);repeat ((first|refine zo _ ?_|refine zr _ rfl ?_|refine zn _ ?_|refine zs _ ?_|refine zd _ ?_|refine zw _ (by kernel_rfl) ?_);conv=>whnf)))
      refine ldp_sel hx2 ?_
      (focus ((conv=>whnf);repeat ((first|refine zo _ ?_|refine zr _ rfl ?_|refine zn _ ?_|refine zs _ ?_|refine zd _ ?_|refine zw _ (by kernel_rfl) ?_);conv=>whnf)))
      (focus (refine Or.inl ?_; conv => whnf));refine call_sel (E := fun (x : (List (Int))) => DV.one (D.sl 1 (List.map Gx.encI x))) h (fun x3 h1 => (i_cells_ok N v0 x2 h1)) (fun x3 hx3 h => ?_)
      (focus ((conv=>whnf);repeat ((first|refine zo _ ?_|refine zr _ rfl ?_|refine zn _ ?_|refine zs _ ?_|refine zd _ ?_|refine zw _ (by kernel_rfl) ?_);conv=>whnf)))
      refine app_sel h (app_ok (by (first|rfl|simp [sub])) (by (first|rfl|simp [sub])) (by decide)) (by (intro h; cases h)) (fun h => ?_)
      (focus ((conv=>whnf);repeat ((first|refine zo _ ?_|refine zr _ rfl ?_|refine zn _ ?_|refine zs _ ?_|refine zd _ ?_|refine zw _ (by kernel_rfl) ?_);conv=>whnf)))
      obtain rfl := some_in h
      refine loop_back hfp1 ?_
      (refine weak_go ?_;(repeat ((conv=>whnf);refine And.intro (by (first|rfl|exact Nat.le_of_ble_eq_true rfl|exact map_snoc _ _ _|exact map_put _ _ _ _|exact map_rep rfl|(simp [sub] <;> rfl))) ?_));(conv=>whnf);exact trivial)
    · (focus ((conv=>whnf);repeat ((first|refine zo _ ?_|refine zr _ rfl ?_|refine zn _ ?_|refine zs _ ?_|refine zd _ ?_|refine zw _ (by kernel_rfl) ?_);conv=>whnf)))
      obtain rfl := some_in h
      have h : some _ = some _ := congrArg some (show _ = _ from hfp1)
      refine cut_at (p1.1) (some_in h) ?_
      (refine weak_go ?_;(repeat ((conv=>whnf);refine And.intro (by (first|rfl|exact Nat.le_of_ble_eq_true rfl|exact map_snoc _ _ _|exact map_put _ _ _ _|exact map_rep rfl|(simp [sub] <;> rfl))) ?_));(conv=>whnf);exact trivial)
  rintro t4 rfl
  have h : _ = some _ := gt4
  (focus ((conv=>whnf);repeat ((first|refine zo _ ?_|refine zr _ rfl ?_|refine zn _ ?_|refine zs _ ?_|refine zd _ ?_|refine zw _ (by kernel_rfl) ?_);conv=>whnf)))
  obtain rfl := some_in h
  (first|rfl|exact Nat.le_of_ble_eq_true rfl|exact map_snoc _ _ _|exact map_put _ _ _ _|exact map_rep rfl|(simp [sub] <;> rfl))

theorem i_readCells_ok (N : Nat) (v0 : List UInt8) (v1 : List (Int)) {r : (List UInt8)} (h : i_readCells N v0 v1 = some r) : Pure Tryz.prog 139 [DV.one (D.s v0), DV.one (D.sl 1 (List.map Gx.encI v1))] (DV.one (D.s r)) := by
  refine pure_of_walk Tryz.tok Tryz.mixed Tryz.func139 (by kernel_rfl) fun W => ?_
  unfold i_readCells at h
  (focus ((conv=>whnf);repeat ((first|refine zo _ ?_|refine zr _ rfl ?_|refine zn _ ?_|refine zd _ ?_|refine zw _ (by kernel_rfl) ?_);conv=>whnf)))
  refine W.r_seq ?_
  (focus ((conv=>whnf);repeat ((first|refine zo _ ?_|refine zr _ rfl ?_|refine zn _ ?_|refine zd _ ?_|refine zw _ (by kernel_rfl) ?_);conv=>whnf)))
  refine W.r_seq ?_
  (focus ((conv=>whnf);repeat ((first|refine zo _ ?_|refine zr _ rfl ?_|refine zn _ ?_|refine zd _ ?_|refine zw _ (by kernel_rfl) ?_);conv=>whnf)))
  obtain ⟨zt2, h, gt2⟩ := bnd_some h
  refine W.r_cut (fun (t2 : (List (UInt8))) => ⟨[(5, .sl 1)], [(1, some (.arr 1 (List.map encU t2) true))], 1000⟩) (fun t => t = zt2) ?_ ?_
  · (focus ((conv=>whnf);repeat ((first|refine zo _ ?_|refine zr _ rfl ?_|refine zn _ ?_|refine zs _ ?_|refine zd _ ?_|refine zw _ (by kernel_rfl) ?_);conv=>whnf)))
    refine len_sel (m := (v1.length : Int)) (by (first|rfl|simp [sub])) ?_
    (focus ((conv=>whnf);repeat ((first|refine zo _ ?_|refine zr _ rfl ?_|refine zn _ ?_|refine zs _ ?_|refine zd _ ?_|refine zw _ (by kernel_rfl) ?_);conv=>whnf)))
    refine loop_lp (fun (p1 : (List (UInt8)) × Int) => ⟨[(0, .d (D.s v0)), (5, .sl 1), (8, .d (D.sl 1 (List.map Gx.encI v1))), (9, .d (D.i (v1.length : Int))), (10, .d (D.i p1.2))], [(1, some (.arr 1 (List.map encU p1.1) true))], 1000⟩) h ?_ ?_
    · (refine weak_go ?_;(repeat ((conv=>whnf);refine And.intro (by (first|rfl|exact Nat.le_of_ble_eq_true rfl|exact map_snoc _ _ _|exact map_put _ _ _ _|exact map_rep rfl|(simp [sub] <;> rfl))) ?_));(conv=>whnf);exact trivial)
    intro np1 p1 yp1 h hfp1
    unfold i_readCells_L1 at h
    (focus ((conv=>whnf);repeat ((first|refine zo _ ?_|refine zr _ rfl ?_|refine zn _ ?_|refine zs _ ?_|refine zd _ ?_|refine zw _ (by kernel_rfl) ?_);conv=>whnf)))
    refine br_sel h (fun _ h => ?_) (fun _ h => ?_)
    · (focus ((conv=>whnf);repeat ((first|refine zo _ ?_|refine zr _ rfl ?_|refine zn _ ?_|refine zs _ ?_|refine zd _ ?_|refine zw _ (by kernel_rfl) ?_);conv=>whnf)))
      refine idx_sel h (fun x1 hx1 h => ?_)
      (focus ((conv=>whnf);repeat ((first|refine zo _ ?_|refine zr _ rfl ?_|refine zn _ ?_|refine zs _ ?_|refine zd _ ?_|refine zw _ (by kernel_rfl) ?_);conv=>whnf)))
      refine chk_sel h (fun q => q) (fun h => ?_)
      (focus ((conv=>whnf);repeat ((first|refine zo _ ?_|refine zr _ rfl ?_|refine zn _ ?_|refine zs _ ?_|refine zd _ ?_|refine zw _ (by kernel_rfl) ?_);conv=>whnf)))
      refine app_sel h (app_ok (by (first|rfl|simp [sub])) (by (first|rfl|simp [sub])) (by decide)) (by (intro h; cases h)) (fun h => ?_)
      (focus ((conv=>whnf);repeat ((first|refine zo _ ?_|refine zr _ rfl ?_|refine zn _ ?_|refine zs _ ?_|refine zd _ ?_|refine zw _ (by kernel_rfl) ?_);conv=>whnf)))
      obtain rfl := some_in h
      refine loop_back hfp1 ?_
      (refine weak_go ?_;(repeat ((conv=>whnf);refine And.intro (by (first|rfl|exact Nat.le_of_ble_eq_true rfl|exact map_snoc _ _ _|exact map_put _ _ _ _|exact map_rep rfl|(simp [sub] <;> rfl))) ?_));(conv=>whnf);exact trivial)
    · (focus ((conv=>whnf);repeat ((first|refine zo _ ?_|refine zr _ rfl ?_|refine zn _ ?_|refine zs _ ?_|refine zd _ ?_|refine zw _ (by kernel_rfl) ?_);conv=>whnf)))
      obtain rfl := some_in h
      have h : some _ = some _ := congrArg some (show _ = _ from hfp1)
      refine cut_at (p1.1) (some_in h) ?_
      (refine weak_go ?_;(repeat ((conv=>whnf);refine And.intro (by (first|rfl|exact Nat.le_of_ble_eq_true rfl|exact map_snoc _ _ _|exact map_put _ _ _ _|exact map_rep rfl|(simp [sub] <;> rfl))) ?_));(conv=>whnf);exact trivial)
  rintro t2 rfl
  have h : _ = some _ := gt2
  (focus ((conv=>whnf);repeat ((first|refine zo _ ?_|refine zr _ rfl ?_|refine zn _ ?_|refine zs _ ?_|refine zd _ ?_|refine zw _ (by kernel_rfl) ?_);conv=>whnf)))
  refine ⟨t2, (by (first|rfl|exact Nat.le_of_ble_eq_true rfl|exact map_snoc _ _ _|exact map_put _ _ _ _|exact map_rep rfl|(simp [sub] <;> rfl))), ?_⟩
  (focus ((conv=>whnf);repeat ((first|refine zo _ ?_|refine zr _ rfl ?_|refine zn _ ?_|refine zs _ ?_|refine zd _ ?_|refine zw _ (by kernel_rfl) ?_);conv=>whnf)))
  obtain rfl := some_in h
  (first|rfl|exact Nat.le_of_ble_eq_true rfl|exact map_snoc _ _ _|exact map_put _ _ _ _|exact map_rep rfl|(simp [sub] <;> rfl))

theorem i_patterns_ok (N : Nat) (v0 : Gx.Grid) (v1 : List UInt8) {r : (List (List UInt8))} (h : i_patterns N v0 v1 = some r) : Pure Tryz.prog 108 [DV.agg (Gx.Grid.enc v0), DV.one (D.s v1)] (DV.one (D.sl 1 (List.map Gx.encS r))) := by
  refine pure_of_walk Tryz.tok Tryz.mixed Tryz.func108 (by kernel_rfl) fun W => ?_
  unfold i_patterns at h
  (focus ((conv=>whnf);repeat ((first|refine zo _ ?_|refine zr _ rfl ?_|refine zn _ ?_|refine zs _ ?_|refine zd _ ?_|refine zw _ (by kernel_rfl) ?_);conv=>whnf)))
  (focus (refine Or.inl ?_; conv => whnf));refine call_sel (E := fun (x : Bool) => DV.one (D.b x)) h (fun x1 h1 => (i_IsFill_ok N v0 v1 h1)) (fun x1 hx1 h => ?_)
  (focus ((conv=>whnf);repeat ((first|refine zo _ ?_|refine zr _ rfl ?_|refine zn _ ?_|refine zs _ ?_|refine zd _ ?_|refine zw _ (by kernel_rfl) ?_);conv=>whnf)))
  refine br_sel h (fun _ h => ?_) (fun _ h => ?_)
  · (focus ((conv=>whnf);repeat ((first|refine zo _ ?_|refine zr _ rfl ?_|refine zn _ ?_|refine zs _ ?_|refine zd _ ?_|refine zw _ (by kernel_rfl) ?_);conv=>whnf)))
    obtain rfl := some_in h
    (first|rfl|exact Nat.le_of_ble_eq_true rfl|exact map_snoc _ _ _|exact map_put _ _ _ _|exact map_rep rfl|(simp [sub] <;> rfl))
  · (focus ((conv=>whnf);repeat ((first|refine zo _ ?_|refine zr _ rfl ?_|refine zn _ ?_|refine zd _ ?_|refine zw _ (by kernel_rfl) ?_);conv=>whnf)))
    refine W.r_seq ?_
    (focus ((conv=>whnf);repeat ((first|refine zo _ ?_|refine zr _ rfl ?_|refine zn _ ?_|refine zd _ ?_|refine zw _ (by kernel_rfl) ?_);conv=>whnf)))
    obtain ⟨zt5, h, gt5⟩ := bnd_some h
    refine W.r_cut (fun (t5 : (List (List UInt8))) => ⟨[(5, .sl 1)], [(1, some (.arr 1 (List.map Gx.encS t5) true))], 1000⟩) (fun t => t = zt5) ?_ ?_
    · (focus ((conv=>whnf);repeat ((first|refine zo _ ?_|refine zr _ rfl ?_|refine zn _ ?_|refine zs _ ?_|refine zd _ ?_|refine zw _ (by kernel_rfl) ?_);conv=>whnf)))
      (focus (refine Or.inl ?_; conv => whnf));refine call_sel (E := fun (x : (List (List (Int)))) => DV.one (D.sl 1 (List.map (Gx.encL 1 Gx.encI) x))) h (fun x2 h1 => (i_layout_ok N v0 h1)) (fun x2 hx2 h => ?_)
      (focus ((conv=>whnf);repeat ((first|refine zo _ ?_|refine zr _ rfl ?_|refine zn _ ?_|refine zs _ ?_|refine zd _ ?_|refine zw _ (by kernel_rfl) ?_);conv=>whnf)))
      refine len_sel (m := (x2.length : Int)) (by (first|rfl|simp [sub])) ?_
      (focus ((conv=>whnf);repeat ((first|refine zo _ ?_|refine zr _ rfl ?_|refine zn _ ?_|refine zs _ ?_|refine zd _ ?_|refine zw _ (by kernel_rfl) ?_);conv=>whnf)))
      refine loop_lp (fun (p1 : (List (List UInt8)) × Int) => ⟨[(1, .d (D.s v1)), (5, .sl 1), (13, .sl 2), (14, .d (D.i (x2.length : Int))), (15, .d (D.i p1.2))], [(1, some (.arr 1 (List.map Gx.encS p1.1) true)), (2, some (.arr 1 (List.map (Gx.encL 1 Gx.encI) x2) true))], 1000⟩) h ?_ ?_
      · (refine weak_go ?_;(repeat ((conv=>whnf);refine And.intro (by (first|rfl|exact Nat.le_of_ble_eq_true rfl|exact map_snoc _ _ _|exact map_put _ _ _ _|exact map_rep rfl|(simp [sub] <;> rfl))) ?_));(conv=>whnf);exact trivial)
      intro np1 p1 yp1 h hfp1
      unfold i_patterns_L1 at h
      (focus ((conv=>whnf);repeat ((first|refine zo _ ?_|refine zr _ rfl ?_|refine zn _ ?_|refine zs _ ?_|refine zd _ ?_|refine zw _ (by kernel_rfl) ?_);conv=>whnf)))
      refine br_sel h (fun _ h => ?_) (fun _ h => ?_)
      · (focus ((conv=>whnf);repeat ((first|refine zo _ ?_|refine zr _ rfl ?_|refine zn _ ?_|refine zs _ ?_|refine zd _ ?_|refine zw _ (by kernel_rfl) ?_);conv=>whnf)))
        refine idxp_sel h (fun x3 hx3 h => ?_)
        (focus ((conv=>whnf);repeat ((first|refine zo _ ?_|refine zr _ rfl ?_|refine zn _ ?_|refine zs _ ?_|refine zd _ ?_|refine zw _ (by kernel_rfl) ?_);conv=>whnf)))
        refine ldp_sel hx3 ?_
        (focus ((conv=>whnf);repeat ((first|refine zo _ ?_|refine zr _ rfl ?_|refine zn _ ?_|refine zs _ ?_|refine zd _ ?_|refine zw _ (by kernel_rfl) ?_);conv=>whnf)))
        (focus (refine Or.inl ?_; conv => whnf));refine call_sel (E := fun (x : (List UInt8)) => DV.one (D.s x)) h (fun x4 h1 => (i_readCells_ok N v1 x3 h1)) (fun x4 hx4 h => ?_)
        (focus ((conv=>whnf);repeat ((first|refine zo _ ?_|refine zr _ rfl ?_|refine zn _ ?_|refine zs _ ?_|refine zd _ ?_|refine zw _ (by kernel_rfl) ?_);conv=>whnf)))
        refine app_sel h (app_ok (by (first|rfl|simp [sub])) (by (first|rfl|simp [sub])) (by decide)) (by (intro h; cases h)) (fun h => ?_)
        (focus ((conv=>whnf);repeat ((first|refine zo _ ?_|refine zr _ rfl ?_|refine zn _ ?_|refine zs _ ?_|refine zd _ ?_|refine zw _ (by kernel_rfl) ?_);conv=>whnf)))
        obtain rfl := some_in h
        refine loop_back hfp1 ?_
        (refine weak_go ?_;(repeat ((conv=>whnf);refine And.intro (by (first|rfl|exact Nat.le_of_ble_eq_true rfl|exact map_snoc _ _ _|exact map_put _ _ _ _|exact map_rep rfl|(simp [sub] <;> rfl))) ?_));(conv=>whnf);exact trivial)
      · (focus ((conv=>whnf);repeat ((first|refine zo _ ?_|refine zr _ rfl ?_|refine zn _ ?_|refine zs _ ?_|refine zd _ ?_|refine zw _ (by kernel_rfl) ?_);conv=>whnf)))
        obtain rfl := some_in h
        have h : some _ = some _ := congrArg some (show _ = _ from hfp1)
        refine cut_at (p1.1) (some_in h) ?_
        (refine weak_go ?_;(repeat ((conv=>whnf);refine And.intro (by (first|rfl|exact Nat.le_of_ble_eq_true rfl|exact map_snoc _ _ _|exact map_put _ _ _ _|exact map_rep rfl|(simp [sub] <;> rfl))) ?_));(conv=>whnf);exact trivial)
    rintro t5 rfl
    have h : _ = some _ := gt5
    (focus ((conv=>whnf);repeat ((first|refine zo _ ?_|refine zr _ rfl ?_|refine zn _ ?_|refine zs _ ?_|refine zd _ ?_|refine zw _ (by kernel_rfl) ?_);conv=>whnf)))
    obtain rfl := some_in h
    (first|rfl|exact Nat.le_of_ble_eq_true rfl|exact map_snoc _ _ _|exact map_put _ _ _ _|exact map_rep rfl|(simp [sub] <;> rfl))

theorem i_openIn_ok (N : Nat) (v0 : List UInt8) {r : Int} (h : i_openIn N v0 = some r) : Pure Tryz.prog 110 [DV.one (D.s v0)] (DV.one (D.i r)) := by
  refine pure_of_walk Tryz.tok Tryz.mixed Tryz.func110 (by kernel_rfl) fun W => ?_
  unfold i_openIn at h
  (focus ((conv=>whnf);repeat ((first|refine zo _ ?_|refine zr _ rfl ?_|refine zn _ ?_|refine zd _ ?_|refine zw _ (by kernel_rfl) ?_);conv=>whnf)))
  refine W.r_seq ?_
  (focus ((conv=>whnf);repeat ((first|refine zo _ ?_|refine zr _ rfl ?_|refine zn _ ?_|refine zd _ ?_|refine zw _ (by kernel_rfl) ?_);conv=>whnf)))
  refine W.r_seq ?_
  (focus ((conv=>whnf);repeat ((first|refine zo _ ?_|refine zr _ rfl ?_|refine zn _ ?_|refine zd _ ?_|refine zw _ (by kernel_rfl) ?_);conv=>whnf)))
  obtain ⟨zt1, h, gt1⟩ := bnd_some h
  refine W.r_cut (fun (t1 : Int) => ⟨[(3, .d (D.i t1))], [], 1000⟩) (fun t => t = zt1) ?_ ?_
  · (focus ((conv=>whnf);repeat ((first|refine zo _ ?_|refine zr _ rfl ?_|refine zn _ ?_|refine zs _ ?_|refine zd _ ?_|refine zw _ (by kernel_rfl) ?_);conv=>whnf)))
    refine len_sel (m := (v0.length : Int)) (by (first|rfl|simp [sub])) ?_
    (focus ((conv=>whnf);repeat ((first|refine zo _ ?_|refine zr _ rfl ?_|refine zn _ ?_|refine zs _ ?_|refine zd _ ?_|refine zw _ (by kernel_rfl) ?_);conv=>whnf)))
    refine loop_lp (fun (p1 : Int × Int) => ⟨[(0, .d (D.s v0)), (3, .d (D.i p1.1)), (6, .d (D.i (v0.length : Int))), (7, .d (D.i p1.2))], [], 1000⟩) h ?_ ?_
    · (refine weak_go ?_;(repeat ((conv=>whnf);refine And.intro (by (first|rfl|exact Nat.le_of_ble_eq_true rfl|exact map_snoc _ _ _|exact map_put _ _ _ _|exact map_rep rfl|(simp [sub] <;> rfl))) ?_));(conv=>whnf);exact trivial)
    intro np1 p1 yp1 h hfp1
    unfold i_openIn_L1 at h
    (focus ((conv=>whnf);repeat ((first|refine zo _ ?_|refine zr _ rfl ?_|refine zn _ ?_|refine zs _ ?_|refine zd _ ?_|refine zw _ (by kernel_rfl) ?_);conv=>whnf)))
    refine br_sel h (fun _ h => ?_) (fun _ h => ?_)
    · (focus ((conv=>whnf);repeat ((first|refine zo _ ?_|refine zr _ rfl ?_|refine zn _ ?_|refine zs _ ?_|refine zd _ ?_|refine zw _ (by kernel_rfl) ?_);conv=>whnf)))
      refine chk_sel h (fun q => q) (fun h => ?_)
      (focus ((conv=>whnf);repeat ((first|refine zo _ ?_|refine zr _ rfl ?_|refine zn _ ?_|refine zs _ ?_|refine zd _ ?_|refine zw _ (by kernel_rfl) ?_);conv=>whnf)))
      refine br_sel h (fun _ h => ?_) (fun _ h => ?_)
      · (focus ((conv=>whnf);repeat ((first|refine zo _ ?_|refine zr _ rfl ?_|refine zn _ ?_|refine zs _ ?_|refine zd _ ?_|refine zw _ (by kernel_rfl) ?_);conv=>whnf)))
        obtain rfl := some_in h
        refine loop_back hfp1 ?_
        (refine weak_go ?_;(repeat ((conv=>whnf);refine And.intro (by (first|rfl|exact Nat.le_of_ble_eq_true rfl|exact map_snoc _ _ _|exact map_put _ _ _ _|exact map_rep rfl|(simp [sub] <;> rfl))) ?_));(conv=>whnf);exact trivial)
      · (focus ((conv=>whnf);repeat ((first|refine zo _ ?_|refine zr _ rfl ?_|refine zn _ ?_|refine zs _ ?_|refine zd _ ?_|refine zw _ (by kernel_rfl) ?_);conv=>whnf)))
        obtain rfl := some_in h
        refine loop_back hfp1 ?_
        (refine weak_go ?_;(repeat ((conv=>whnf);refine And.intro (by (first|rfl|exact Nat.le_of_ble_eq_true rfl|exact map_snoc _ _ _|exact map_put _ _ _ _|exact map_rep rfl|(simp [sub] <;> rfl))) ?_));(conv=>whnf);exact trivial)
    · (focus ((conv=>whnf);repeat ((first|refine zo _ ?_|refine zr _ rfl ?_|refine zn _ ?_|refine zs _ ?_|refine zd _ ?_|refine zw _ (by kernel_rfl) ?_);conv=>whnf)))
      obtain rfl := some_in h
      have h : some _ = some _ := congrArg some (show _ = _ from hfp1)
      refine cut_at (p1.1) (some_in h) ?_
      (refine weak_go ?_;(repeat ((conv=>whnf);refine And.intro (by (first|rfl|exact Nat.le_of_ble_eq_true rfl|exact map_snoc _ _ _|exact map_put _ _ _ _|exact map_rep rfl|(simp [sub] <;> rfl))) ?_));(conv=>whnf);exact trivial)
  rintro t1 rfl
  have h : _ = some _ := gt1
  (focus ((conv=>whnf);repeat ((first|refine zo _ ?_|refine zr _ rfl ?_|refine zn _ ?_|refine zs _ ?_|refine zd _ ?_|refine zw _ (by kernel_rfl) ?_);conv=>whnf)))
  obtain rfl := some_in h
  (first|rfl|exact Nat.le_of_ble_eq_true rfl|exact map_snoc _ _ _|exact map_put _ _ _ _|exact map_rep rfl|(simp [sub] <;> rfl))

theorem i_WordsIn_1_ok (N : Nat) (v0 : List UInt8) {r : Bool} (h : i_WordsIn_1 N v0 = some r) : Pure Tryz.prog 109 [DV.one (D.s v0)] (DV.one (D.b r)) := by
  refine pure_of_walk Tryz.tok Tryz.mixed Tryz.func109 (by kernel_rfl) fun W => ?_
  unfold i_WordsIn_1 at h
  (focus ((conv=>whnf);repeat ((first|refine zo _ ?_|refine zr _ rfl ?_|refine zn _ ?_|refine zs _ ?_|refine zd _ ?_|refine zw _ (by kernel_rfl) ?_);conv=>whnf)))
  (focus (refine Or.inl ?_; conv => whnf));refine call_sel (E := fun (x : Int) => DV.one (D.i x)) h (fun x1 h1 => (i_openIn_ok N v0 h1)) (fun x1 hx1 h => ?_)
  (focus ((conv=>whnf);repeat ((first|refine zo _ ?_|refine zr _ rfl ?_|refine zn _ ?_|refine zs _ ?_|refine zd _ ?_|refine zw _ (by kernel_rfl) ?_);conv=>whnf)))
  obtain rfl := some_in h
  (first|rfl|exact Nat.le_of_ble_eq_true rfl|exact map_snoc _ _ _|exact map_put _ _ _ _|exact map_rep rfl|(simp [sub] <;> rfl))

theorem i_those_ok0 (N : Nat) (v0 : List (List UInt8)) (v1 : (List UInt8) → Option Bool) (fv1 : FuncId) (hv1 : ∀ a0 r, v1 a0 = some r → Pure Tryz.prog fv1 [DV.one (D.s a0)] (DV.one (D.b r))) {r : (List (List UInt8))} (h : i_those N v0 v1 = some r) : Pure Tryz.prog 107 [DV.one (D.sl 1 (List.map Gx.encS v0)), DV.fn fv1 []] (DV.one (D.sl 1 (List.map Gx.encS r))) := by
  refine pure_of_walk Tryz.tok Tryz.mixed Tryz.func107 (by kernel_rfl) fun W => ?_
  unfold i_those at h
  (focus ((conv=>whnf);repeat ((first|refine zo _ ?_|refine zr _ rfl ?_|refine zn _ ?_|refine zd _ ?_|refine zw _ (by kernel_rfl) ?_);conv=>whnf)))
  refine W.r_seq ?_
  (focus ((conv=>whnf);repeat ((first|refine zo _ ?_|refine zr _ rfl ?_|refine zn _ ?_|refine zd _ ?_|refine zw _ (by kernel_rfl) ?_);conv=>whnf)))
  refine W.r_seq ?_
  (focus ((conv=>whnf);repeat ((first|refine zo _ ?_|refine zr _ rfl ?_|refine zn _ ?_|refine zd _ ?_|refine zw _ (by kernel_rfl) ?_);conv=>whnf)))
  obtain ⟨zt3, h, gt3⟩ := bnd_some h
  refine W.r_cut (fun (t3 : (List (List UInt8))) => ⟨[(5, .sl 1)], [(1, some (.arr 1 (List.map Gx.encS t3) true))], 1000⟩) (fun t => t = zt3) ?_ ?_
  · (focus ((conv=>whnf);repeat ((first|refine zo _ ?_|refine zr _ rfl ?_|refine zn _ ?_|refine zs _ ?_|refine zd _ ?_|refine zw _ (by kernel_rfl) ?_);conv=>whnf)))
    refine len_sel (m := (v0.length : Int)) (by (first|rfl|simp [sub])) ?_
    (focus ((conv=>whnf);repeat ((first|refine zo _ ?_|refine zr _ rfl ?_|refine zn _ ?_|refine zs _ ?_|refine zd _ ?_|refine zw _ (by kernel_rfl) ?_);conv=>whnf)))
    refine loop_lp (fun (p1 : (List (List UInt8)) × Int) => ⟨[(1, .fn fv1 []), (5, .sl 1), (8, .d (D.sl 1 (List.map Gx.encS v0))), (9, .d (D.i (v0.length : Int))), (10, .d (D.i p1.2))], [(1, some (.arr 1 (List.map Gx.encS p1.1) true))], 1000⟩) h ?_ ?_
    · (refine weak_go ?_;(repeat ((conv=>whnf);refine And.intro (by (first|rfl|exact Nat.le_of_ble_eq_true rfl|exact map_snoc _ _ _|exact map_put _ _ _ _|exact map_rep rfl|(simp [sub] <;> rfl))) ?_));(conv=>whnf);exact trivial)
    intro np1 p1 yp1 h hfp1
    unfold i_those_L1 at h
    (focus ((conv=>whnf);repeat ((first|refine zo _ ?_|refine zr _ rfl ?_|refine zn _ ?_|refine zs _ ?_|refine zd _ ?_|refine zw _ (by kernel_rfl) ?_);conv=>whnf)))
    refine br_sel h (fun _ h => ?_) (fun _ h => ?_)
    · (focus ((conv=>whnf);repeat ((first|refine zo _ ?_|refine zr _ rfl ?_|refine zn _ ?_|refine zs _ ?_|refine zd _ ?_|refine zw _ (by kernel_rfl) ?_);conv=>whnf)))
      refine idx_sel h (fun x1 hx1 h => ?_)
      (focus ((conv=>whnf);repeat ((first|refine zo _ ?_|refine zr _ rfl ?_|refine zn _ ?_|refine zs _ ?_|refine zd _ ?_|refine zw _ (by kernel_rfl) ?_);conv=>whnf)))
      (focus (refine Or.inl ?_; conv => whnf));refine call_sel (E := fun (x : Bool) => DV.one (D.b x)) h (fun x2 h1 => (hv1 _ _ h1)) (fun x2 hx2 h => ?_)
      (focus ((conv=>whnf);repeat ((first|refine zo _ ?_|refine zr _ rfl ?_|refine zn _ ?_|refine zs _ ?_|refine zd _ ?_|refine zw _ (by kernel_rfl) ?_);conv=>whnf)))
      refine br_sel h (fun _ h => ?_) (fun _ h => ?_)
      · (focus ((conv=>whnf);repeat ((first|refine zo _ ?_|refine zr _ rfl ?_|refine zn _ ?_|refine zs _ ?_|refine zd _ ?_|refine zw _ (by kernel_rfl) ?_);conv=>whnf)))
        refine app_sel h (app_ok (by (first|rfl|simp [sub])) (by (first|rfl|simp [sub])) (by decide)) (by (intro h; cases h)) (fun h => ?_)
        (focus ((conv=>whnf);repeat ((first|refine zo _ ?_|refine zr _ rfl ?_|refine zn _ ?_|refine zs _ ?_|refine zd _ ?_|refine zw _ (by kernel_rfl) ?_);conv=>whnf)))
        obtain rfl := some_in h
        refine loop_back hfp1 ?_
        (refine weak_go ?_;(repeat ((conv=>whnf);refine And.intro (by (first|rfl|exact Nat.le_of_ble_eq_true rfl|exact map_snoc _ _ _|exact map_put _ _ _ _|exact map_rep rfl|(simp [sub] <;> rfl))) ?_));(conv=>whnf);exact trivial)
      · (focus ((conv=>whnf);repeat ((first|refine zo _ ?_|refine zr _ rfl ?_|refine zn _ ?_|refine zs _ ?_|refine zd _ ?_|refine zw _ (by kernel_rfl) ?_);conv=>whnf)))
        obtain rfl := some_in h
        refine loop_back hfp1 ?_
        (refine weak_go ?_;(repeat ((conv=>whnf);refine And.intro (by (first|rfl|exact Nat.le_of_ble_eq_true rfl|exact map_snoc _ _ _|exact map_put _ _ _ _|exact map_rep rfl|(simp [sub] <;> rfl))) ?_));(conv=>whnf);exact trivial)
    · (focus ((conv=>whnf);repeat ((first|refine zo _ ?_|refine zr _ rfl ?_|refine zn _ ?_|refine zs _ ?_|refine zd _ ?_|refine zw _ (by kernel_rfl) ?_);conv=>whnf)))
      obtain rfl := some_in h
      have h : some _ = some _ := congrArg some (show _ = _ from hfp1)
      refine cut_at (p1.1) (some_in h) ?_
      (refine weak_go ?_;(repeat ((conv=>whnf);refine And.intro (by (first|rfl|exact Nat.le_of_ble_eq_true rfl|exact map_snoc _ _ _|exact map_put _ _ _ _|exact map_rep rfl|(simp [sub] <;> rfl))) ?_));(conv=>whnf);exact trivial)
  rintro t3 rfl
  have h : _ = some _ := gt3
  (focus ((conv=>whnf);repeat ((first|refine zo _ ?_|refine zr _ rfl ?_|refine zn _ ?_|refine zs _ ?_|refine zd _ ?_|refine zw _ (by kernel_rfl) ?_);conv=>whnf)))
  obtain rfl := some_in h
  (first|rfl|exact Nat.le_of_ble_eq_true rfl|exact map_snoc _ _ _|exact map_put _ _ _ _|exact map_rep rfl|(simp [sub] <;> rfl))

theorem i_WordsIn_ok (N : Nat) (v0 : Gx.Grid) (v1 : List UInt8) {r : (List (List UInt8))} (h : i_WordsIn N v0 v1 = some r) : Pure Tryz.prog 70 [DV.agg (Gx.Grid.enc v0), DV.one (D.s v1)] (DV.one (D.sl 1 (List.map Gx.encS r))) := by
  refine pure_of_walk Tryz.tok Tryz.mixed Tryz.func70 (by kernel_rfl) fun W => ?_
  unfold i_WordsIn at h
  (focus ((conv=>whnf);repeat ((first|refine zo _ ?_|refine zr _ rfl ?_|refine zn _ ?_|refine zs _ ?_|refine zd _ ?_|refine zw _ (by kernel_rfl) ?_);conv=>whnf)))
  (focus (refine Or.inl ?_; conv => whnf));refine call_sel (E := fun (x : (List (List UInt8))) => DV.one (D.sl 1 (List.map Gx.encS x))) h (fun x1 h1 => (i_patterns_ok N v0 v1 h1)) (fun x1 hx1 h => ?_)
  (focus ((conv=>whnf);repeat ((first|refine zo _ ?_|refine zr _ rfl ?_|refine zn _ ?_|refine zs _ ?_|refine zd _ ?_|refine zw _ (by kernel_rfl) ?_);conv=>whnf)))
  (focus (refine Or.inl ?_; conv => whnf));refine call_sel (E := fun (x : (List (List UInt8))) => DV.one (D.sl 1 (List.map Gx.encS x))) h (fun x2 h1 => (i_those_ok0 N x1 (fun a0 => i_WordsIn_1 N a0) 109 (fun a0 _ hh => i_WordsIn_1_ok N a0 hh) h1)) (fun x2 hx2 h => ?_)
  (focus ((conv=>whnf);repeat ((first|refine zo _ ?_|refine zr _ rfl ?_|refine zn _ ?_|refine zs _ ?_|refine zd _ ?_|refine zw _ (by kernel_rfl) ?_);conv=>whnf)))
  obtain rfl := some_in h
  (first|rfl|exact Nat.le_of_ble_eq_true rfl|exact map_snoc _ _ _|exact map_put _ _ _ _|exact map_rep rfl|(simp [sub] <;> rfl))

theorem i_Issue_words_ok (N : Nat) (v0 : Gx.Issue) {r : (List (List UInt8))} (h : i_Issue_words N v0 = some r) : Pure Tryz.prog 34 [DV.agg (Gx.Issue.enc v0)] (DV.one (D.sl 1 (List.map Gx.encS r))) := by
  refine pure_of_walk Tryz.tok Tryz.mixed Tryz.func34 (by kernel_rfl) fun W => ?_
  unfold i_Issue_words at h
  (focus ((conv=>whnf);repeat ((first|refine zo _ ?_|refine zr _ rfl ?_|refine zn _ ?_|refine zs _ ?_|refine zd _ ?_|refine zw _ (by kernel_rfl) ?_);conv=>whnf)))
  (focus (refine Or.inl ?_; conv => whnf));refine call_sel (E := fun (x : (List (List UInt8))) => DV.one (D.sl 1 (List.map Gx.encS x))) h (fun x1 h1 => (i_WordsIn_ok N v0.mPuzzle.mGrid v0.mFill h1)) (fun x1 hx1 h => ?_)
  (focus ((conv=>whnf);repeat ((first|refine zo _ ?_|refine zr _ rfl ?_|refine zn _ ?_|refine zs _ ?_|refine zd _ ?_|refine zw _ (by kernel_rfl) ?_);conv=>whnf)))
  obtain rfl := some_in h
  (first|rfl|exact Nat.le_of_ble_eq_true rfl|exact map_snoc _ _ _|exact map_put _ _ _ _|exact map_rep rfl|(simp [sub] <;> rfl))

theorem i_BeforeWord_ok (N : Nat) (v0 : List UInt8) (v1 : List UInt8) {r : Bool} (h : i_BeforeWord N v0 v1 = some r) : Pure Tryz.prog 102 [DV.one (D.s v0), DV.one (D.s v1)] (DV.one (D.b r)) := by
  refine pure_of_walk Tryz.tok Tryz.mixed Tryz.func102 (by kernel_rfl) fun W => ?_
  unfold i_BeforeWord at h
  (focus ((conv=>whnf);repeat ((first|refine zo _ ?_|refine zr _ rfl ?_|refine zn _ ?_|refine zs _ ?_|refine zd _ ?_|refine zw _ (by kernel_rfl) ?_);conv=>whnf)))
  refine len_sel (m := (v0.length : Int)) (by (first|rfl|simp [sub])) ?_
  (focus ((conv=>whnf);repeat ((first|refine zo _ ?_|refine zr _ rfl ?_|refine zn _ ?_|refine zs _ ?_|refine zd _ ?_|refine zw _ (by kernel_rfl) ?_);conv=>whnf)))
  refine len_sel (m := (v1.length : Int)) (by (first|rfl|simp [sub])) ?_
  (focus ((conv=>whnf);repeat ((first|refine zo _ ?_|refine zr _ rfl ?_|refine zn _ ?_|refine zs _ ?_|refine zd _ ?_|refine zw _ (by kernel_rfl) ?_);conv=>whnf)))
  refine br_sel h (fun _ h => ?_) (fun _ h => ?_)
  · (focus ((conv=>whnf);repeat ((first|refine zo _ ?_|refine zr _ rfl ?_|refine zn _ ?_|refine zs _ ?_|refine zd _ ?_|refine zw _ (by kernel_rfl) ?_);conv=>whnf)))
    refine len_sel (m := (v0.length : Int)) (by (first|rfl|simp [sub])) ?_
    (focus ((conv=>whnf);repeat ((first|refine zo _ ?_|refine zr _ rfl ?_|refine zn _ ?_|refine zs _ ?_|refine zd _ ?_|refine zw _ (by kernel_rfl) ?_);conv=>whnf)))
    refine len_sel (m := (v1.length : Int)) (by (first|rfl|simp [sub])) ?_
    (focus ((conv=>whnf);repeat ((first|refine zo _ ?_|refine zr _ rfl ?_|refine zn _ ?_|refine zs _ ?_|refine zd _ ?_|refine zw _ (by kernel_rfl) ?_);conv=>whnf)))
    obtain rfl := some_in h
    (first|rfl|exact Nat.le_of_ble_eq_true rfl|exact map_snoc _ _ _|exact map_put _ _ _ _|exact map_rep rfl|(simp [sub] <;> rfl))
  · (focus ((conv=>whnf);repeat ((first|refine zo _ ?_|refine zr _ rfl ?_|refine zn _ ?_|refine zs _ ?_|refine zd _ ?_|refine zw _ (by kernel_rfl) ?_);conv=>whnf)))
    obtain rfl := some_in h
    (first|rfl|exact Nat.le_of_ble_eq_true rfl|exact map_snoc _ _ _|exact map_put _ _ _ _|exact map_rep rfl|(simp [sub] <;> rfl))

theorem i_IsWord_ok (N : Nat) (v0 : List UInt8) {r : Bool} (h : i_IsWord N v0 = some r) : Pure Tryz.prog 103 [DV.one (D.s v0)] (DV.one (D.b r)) := by
  refine pure_of_walk Tryz.tok Tryz.mixed Tryz.func103 (by kernel_rfl) fun W => ?_
  unfold i_IsWord at h
  (focus ((conv=>whnf);repeat ((first|refine zo _ ?_|refine zr _ rfl ?_|refine zn _ ?_|refine zs _ ?_|refine zd _ ?_|refine zw _ (by kernel_rfl) ?_);conv=>whnf)))
  refine len_sel (m := (v0.length : Int)) (by (first|rfl|simp [sub])) ?_
  (focus ((conv=>whnf);repeat ((first|refine zo _ ?_|refine zr _ rfl ?_|refine zn _ ?_|refine zs _ ?_|refine zd _ ?_|refine zw _ (by kernel_rfl) ?_);conv=>whnf)))
  (focus (refine Or.inl ?_; conv => whnf));refine call_sel (E := fun (x : Bool) => DV.one (D.b x)) h (fun x1 h1 => (i_InRange_ok N (v0.length : Int) 1 8 h1)) (fun x1 hx1 h => ?_)
  (focus ((conv=>whnf);repeat ((first|refine zo _ ?_|refine zr _ rfl ?_|refine zn _ ?_|refine zs _ ?_|refine zd _ ?_|refine zw _ (by kernel_rfl) ?_);conv=>whnf)))
  refine br_sel h (fun _ h => ?_) (fun _ h => ?_)
  · (focus ((conv=>whnf);repeat ((first|refine zo _ ?_|refine zr _ rfl ?_|refine zn _ ?_|refine zs _ ?_|refine zd _ ?_|refine zw _ (by kernel_rfl) ?_);conv=>whnf)))
    obtain rfl := some_in h
    (first|rfl|exact Nat.le_of_ble_eq_true rfl|exact map_snoc _ _ _|exact map_put _ _ _ _|exact map_rep rfl|(simp [sub] <;> rfl))
  · (focus ((conv=>whnf);repeat ((first|refine zo _ ?_|refine zr _ rfl ?_|refine zn _ ?_|refine zd _ ?_|refine zw _ (by kernel_rfl) ?_);conv=>whnf)))
    obtain ⟨zt3, h, gt3⟩ := cutb_some h
    refine W.r_cut (fun (t3 : Unit) => ⟨[], [], 1000⟩) (fun t => .nx t = zt3) ?_ ?_
    · (focus ((conv=>whnf);repeat ((first|refine zo _ ?_|refine zr _ rfl ?_|refine zn _ ?_|refine zs _ ?_|refine zd _ ?_|refine zw _ (by kernel_rfl) ?_);conv=>whnf)))
      refine len_sel (m := (v0.length : Int)) (by (first|rfl|simp [sub])) ?_
      (focus ((conv=>whnf);repeat ((first|refine zo _ ?_|refine zr _ rfl ?_|refine zn _ ?_|refine zs _ ?_|refine zd _ ?_|refine zw _ (by kernel_rfl) ?_);conv=>whnf)))
      refine loop_lp (fun (p1 : Int) => ⟨[(0, .d (D.s v0)), (9, .d (D.i (v0.length : Int))), (10, .d (D.i p1))], [], 1000⟩) h ?_ ?_
      · (refine weak_go ?_;(repeat ((conv=>whnf);refine And.intro (by (first|rfl|exact Nat.le_of_ble_eq_true rfl|exact map_snoc _ _ _|exact map_put _ _ _ _|exact map_rep rfl|(simp [sub] <;> rfl))) ?_));(conv=>whnf);exact trivial)
      intro np1 p1 yp1 h hfp1
      unfold i_IsWord_L1 at h
      (focus ((conv=>whnf);repeat ((first|refine zo _ ?_|refine zr _ rfl ?_|refine zn _ ?_|refine zs _ ?_|refine zd _ ?_|refine zw _ (by kernel_rfl) ?_);conv=>whnf)))
      refine br_sel h (fun _ h => ?_) (fun _ h => ?_)
      · (focus ((conv=>whnf);repeat ((first|refine zo _ ?_|refine zr _ rfl ?_|refine zn _ ?_|refine zs _ ?_|refine zd _ ?_|refine zw _ (by kernel_rfl) ?_);conv=>whnf)))
        refine chk_sel h (fun q => q) (fun h => ?_)
        (focus ((conv=>whnf);repeat ((first|refine zo _ ?_|refine zr _ rfl ?_|refine zn _ ?_|refine zs _ ?_|refine zd _ ?_|refine zw _ (by kernel_rfl) ?_);conv=>whnf)))
        (focus (refine Or.inl ?_; conv => whnf));refine call_sel (E := fun (x : Bool) => DV.one (D.b x)) h (fun x2 h1 => (i_isLetter_ok N (byteI v0 p1) h1)) (fun x2 hx2 h => ?_)
        (focus ((conv=>whnf);repeat ((first|refine zo _ ?_|refine zr _ rfl ?_|refine zn _ ?_|refine zs _ ?_|refine zd _ ?_|refine zw _ (by kernel_rfl) ?_);conv=>whnf)))
        refine br_sel h (fun _ h => ?_) (fun _ h => ?_)
        · (focus ((conv=>whnf);repeat ((first|refine zo _ ?_|refine zr _ rfl ?_|refine zn _ ?_|refine zs _ ?_|refine zd _ ?_|refine zw _ (by kernel_rfl) ?_);conv=>whnf)))
          obtain rfl := some_in h
          have h : some _ = some _ := congrArg some (show _ = _ from hfp1)
          obtain rfl := some_in h
          have h : some _ = some _ := congrArg some (show _ = _ from gt3)
          obtain rfl := some_in h
          (first|rfl|exact Nat.le_of_ble_eq_true rfl|exact map_snoc _ _ _|exact map_put _ _ _ _|exact map_rep rfl|(simp [sub] <;> rfl))
        · (focus ((conv=>whnf);repeat ((first|refine zo _ ?_|refine zr _ rfl ?_|refine zn _ ?_|refine zs _ ?_|refine zd _ ?_|refine zw _ (by kernel_rfl) ?_);conv=>whnf)))
          obtain rfl := some_in h
          refine loop_back hfp1 ?_
          (refine weak_go ?_;(repeat ((conv=>whnf);refine And.intro (by (first|rfl|exact Nat.le_of_ble_eq_true rfl|exact map_snoc _ _ _|exact map_put _ _ _ _|exact map_rep rfl|(simp [sub] <;> rfl))) ?_));(conv=>whnf);exact trivial)
      · (focus ((conv=>whnf);repeat ((first|refine zo _ ?_|refine zr _ rfl ?_|refine zn _ ?_|refine zs _ ?_|refine zd _ ?_|refine zw _ (by kernel_rfl) ?_);conv=>whnf)))
        obtain rfl := some_in h
        have h : some _ = some _ := congrArg some (show _ = _ from hfp1)
        refine cut_at (()) (some_in h) ?_
        (refine weak_go ?_;(repeat ((conv=>whnf);refine And.intro (by (first|rfl|exact Nat.le_of_ble_eq_true rfl|exact map_snoc _ _ _|exact map_put _ _ _ _|exact map_rep rfl|(simp [sub] <;> rfl))) ?_));(conv=>whnf);exact trivial)
    rintro t3 rfl
    have h : _ = some _ := gt3
    (focus ((conv=>whnf);repeat ((first|refine zo _ ?_|refine zr _ rfl ?_|refine zn _ ?_|refine zs _ ?_|refine zd _ ?_|refine zw _ (by kernel_rfl) ?_);conv=>whnf)))
    obtain rfl := some_in h
    (first|rfl|exact Nat.le_of_ble_eq_true rfl|exact map_snoc _ _ _|exact map_put _ _ _ _|exact map_rep rfl|(simp [sub] <;> rfl))

theorem i_IsList_ok (N : Nat) (v0 : List (Gx.Listed)) {r : Bool} (h : i_IsList N v0 = some r) : Pure Tryz.prog 68 [DV.one (D.sl 4 (List.map Gx.Listed.enc v0))] (DV.one (D.b r)) := by
  refine pure_of_walk Tryz.tok Tryz.mixed Tryz.func68 (by kernel_rfl) fun W => ?_
  unfold i_IsList at h
  (focus ((conv=>whnf);repeat ((first|refine zo _ ?_|refine zr _ rfl ?_|refine zn _ ?_|refine zs _ ?_|refine zd _ ?_|refine zw _ (by kernel_rfl) ?_);conv=>whnf)))
  refine len_sel (m := (v0.length : Int)) (by (first|rfl|simp [sub])) ?_
  (focus ((conv=>whnf);repeat ((first|refine zo _ ?_|refine zr _ rfl ?_|refine zn _ ?_|refine zs _ ?_|refine zd _ ?_|refine zw _ (by kernel_rfl) ?_);conv=>whnf)))
  refine br_sel h (fun _ h => ?_) (fun _ h => ?_)
  · (focus ((conv=>whnf);repeat ((first|refine zo _ ?_|refine zr _ rfl ?_|refine zn _ ?_|refine zs _ ?_|refine zd _ ?_|refine zw _ (by kernel_rfl) ?_);conv=>whnf)))
    obtain rfl := some_in h
    (first|rfl|exact Nat.le_of_ble_eq_true rfl|exact map_snoc _ _ _|exact map_put _ _ _ _|exact map_rep rfl|(simp [sub] <;> rfl))
  · (focus ((conv=>whnf);repeat ((first|refine zo _ ?_|refine zr _ rfl ?_|refine zn _ ?_|refine zd _ ?_|refine zw _ (by kernel_rfl) ?_);conv=>whnf)))
    obtain ⟨zt10, h, gt10⟩ := cutb_some h
    refine W.r_cut (fun (t10 : Unit) => ⟨[], [], 1000⟩) (fun t => .nx t = zt10) ?_ ?_
    · (focus ((conv=>whnf);repeat ((first|refine zo _ ?_|refine zr _ rfl ?_|refine zn _ ?_|refine zs _ ?_|refine zd _ ?_|refine zw _ (by kernel_rfl) ?_);conv=>whnf)))
      refine len_sel (m := (v0.length : Int)) (by (first|rfl|simp [sub])) ?_
      (focus ((conv=>whnf);repeat ((first|refine zo _ ?_|refine zr _ rfl ?_|refine zn _ ?_|refine zs _ ?_|refine zd _ ?_|refine zw _ (by kernel_rfl) ?_);conv=>whnf)))
      refine loop_lp (fun (p1 : Int) => ⟨[(0, .d (D.sl 4 (List.map Gx.Listed.enc v0))), (8, .d (D.sl 4 (List.map Gx.Listed.enc v0))), (9, .d (D.i (v0.length : Int))), (10, .d (D.i p1))], [], 1000⟩) h ?_ ?_
      · (refine weak_go ?_;(repeat ((conv=>whnf);refine And.intro (by (first|rfl|exact Nat.le_of_ble_eq_true rfl|exact map_snoc _ _ _|exact map_put _ _ _ _|exact map_rep rfl|(simp [sub] <;> rfl))) ?_));(conv=>whnf);exact trivial)
      intro np1 p1 yp1 h hfp1
      unfold i_IsList_L1 at h
      (focus ((conv=>whnf);repeat ((first|refine zo _ ?_|refine zr _ rfl ?_|refine zn _ ?_|refine zs _ ?_|refine zd _ ?_|refine zw _ (by kernel_rfl) ?_);conv=>whnf)))
      refine br_sel h (fun _ h => ?_) (fun _ h => ?_)
      · (focus ((conv=>whnf);repeat ((first|refine zo _ ?_|refine zr _ rfl ?_|refine zn _ ?_|refine zs _ ?_|refine zd _ ?_|refine zw _ (by kernel_rfl) ?_);conv=>whnf)))
        refine idx_sel h (fun x1 hx1 h => ?_)
        (focus ((conv=>whnf);repeat ((first|refine zo _ ?_|refine zr _ rfl ?_|refine zn _ ?_|refine zs _ ?_|refine zd _ ?_|refine zw _ (by kernel_rfl) ?_);conv=>whnf)))
        refine br_sel h (fun _ h => ?_) (fun _ h => ?_)
        · (focus ((conv=>whnf);repeat ((first|refine zo _ ?_|refine zr _ rfl ?_|refine zn _ ?_|refine zs _ ?_|refine zd _ ?_|refine zw _ (by kernel_rfl) ?_);conv=>whnf)))
          refine idx_sel h (fun x2 hx2 h => ?_)
          (focus ((conv=>whnf);repeat ((first|refine zo _ ?_|refine zr _ rfl ?_|refine zn _ ?_|refine zs _ ?_|refine zd _ ?_|refine zw _ (by kernel_rfl) ?_);conv=>whnf)))
          (focus (refine Or.inl ?_; conv => whnf));refine call_sel (E := fun (x : Bool) => DV.one (D.b x)) h (fun x3 h1 => (i_BeforeWord_ok N x2.mWord x1.mWord h1)) (fun x3 hx3 h => ?_)
          (focus ((conv=>whnf);repeat ((first|refine zo _ ?_|refine zr _ rfl ?_|refine zn _ ?_|refine zs _ ?_|refine zd _ ?_|refine zw _ (by kernel_rfl) ?_);conv=>whnf)))
          refine br_sel h (fun _ h => ?_) (fun _ h => ?_)
          · (focus ((conv=>whnf);repeat ((first|refine zo _ ?_|refine zr _ rfl ?_|refine zn _ ?_|refine zs _ ?_|refine zd _ ?_|refine zw _ (by kernel_rfl) ?_);conv=>whnf)))
            obtain rfl := some_in h
            have h : some _ = some _ := congrArg some (show _ = _ from hfp1)
            obtain rfl := some_in h
            have h : some _ = some _ := congrArg some (show _ = _ from gt10)
            obtain rfl := some_in h
            (first|rfl|exact Nat.le_of_ble_eq_true rfl|exact map_snoc _ _ _|exact map_put _ _ _ _|exact map_rep rfl|(simp [sub] <;> rfl))
          · (focus ((conv=>whnf);repeat ((first|refine zo _ ?_|refine zr _ rfl ?_|refine zn _ ?_|refine zs _ ?_|refine zd _ ?_|refine zw _ (by kernel_rfl) ?_);conv=>whnf)))
            (focus (refine Or.inl ?_; conv => whnf));refine call_sel (E := fun (x : Bool) => DV.one (D.b x)) h (fun x4 h1 => (i_IsWord_ok N x1.mWord h1)) (fun x4 hx4 h => ?_)
            (focus ((conv=>whnf);repeat ((first|refine zo _ ?_|refine zr _ rfl ?_|refine zn _ ?_|refine zs _ ?_|refine zd _ ?_|refine zw _ (by kernel_rfl) ?_);conv=>whnf)))
            refine br_sel h (fun _ h => ?_) (fun _ h => ?_)
            · (focus ((conv=>whnf);repeat ((first|refine zo _ ?_|refine zr _ rfl ?_|refine zn _ ?_|refine zs _ ?_|refine zd _ ?_|refine zw _ (by kernel_rfl) ?_);conv=>whnf)))
              obtain rfl := some_in h
              have h : some _ = some _ := congrArg some (show _ = _ from hfp1)
              obtain rfl := some_in h
              have h : some _ = some _ := congrArg some (show _ = _ from gt10)
              obtain rfl := some_in h
              (first|rfl|exact Nat.le_of_ble_eq_true rfl|exact map_snoc _ _ _|exact map_put _ _ _ _|exact map_rep rfl|(simp [sub] <;> rfl))
            · (focus ((conv=>whnf);repeat ((first|refine zo _ ?_|refine zr _ rfl ?_|refine zn _ ?_|refine zs _ ?_|refine zd _ ?_|refine zw _ (by kernel_rfl) ?_);conv=>whnf)))
              (focus (refine Or.inl ?_; conv => whnf));refine call_sel (E := fun (x : Bool) => DV.one (D.b x)) h (fun x5 h1 => (i_InRange_ok N x1.mFrom 0 x1.mUntil h1)) (fun x5 hx5 h => ?_)
              (focus ((conv=>whnf);repeat ((first|refine zo _ ?_|refine zr _ rfl ?_|refine zn _ ?_|refine zs _ ?_|refine zd _ ?_|refine zw _ (by kernel_rfl) ?_);conv=>whnf)))
              refine br_sel h (fun _ h => ?_) (fun _ h => ?_)
              · (focus ((conv=>whnf);repeat ((first|refine zo _ ?_|refine zr _ rfl ?_|refine zn _ ?_|refine zs _ ?_|refine zd _ ?_|refine zw _ (by kernel_rfl) ?_);conv=>whnf)))
                obtain rfl := some_in h
                have h : some _ = some _ := congrArg some (show _ = _ from hfp1)
                obtain rfl := some_in h
                have h : some _ = some _ := congrArg some (show _ = _ from gt10)
                obtain rfl := some_in h
                (first|rfl|exact Nat.le_of_ble_eq_true rfl|exact map_snoc _ _ _|exact map_put _ _ _ _|exact map_rep rfl|(simp [sub] <;> rfl))
              · (focus ((conv=>whnf);repeat ((first|refine zo _ ?_|refine zr _ rfl ?_|refine zn _ ?_|refine zs _ ?_|refine zd _ ?_|refine zw _ (by kernel_rfl) ?_);conv=>whnf)))
                refine br_sel h (fun _ h => ?_) (fun _ h => ?_)
                · (focus ((conv=>whnf);repeat ((first|refine zo _ ?_|refine zr _ rfl ?_|refine zn _ ?_|refine zs _ ?_|refine zd _ ?_|refine zw _ (by kernel_rfl) ?_);conv=>whnf)))
                  obtain rfl := some_in h
                  have h : some _ = some _ := congrArg some (show _ = _ from hfp1)
                  obtain rfl := some_in h
                  have h : some _ = some _ := congrArg some (show _ = _ from gt10)
                  obtain rfl := some_in h
                  (first|rfl|exact Nat.le_of_ble_eq_true rfl|exact map_snoc _ _ _|exact map_put _ _ _ _|exact map_rep rfl|(simp [sub] <;> rfl))
                · (focus ((conv=>whnf);repeat ((first|refine zo _ ?_|refine zr _ rfl ?_|refine zn _ ?_|refine zs _ ?_|refine zd _ ?_|refine zw _ (by kernel_rfl) ?_);conv=>whnf)))
                  (focus (refine Or.inl ?_; conv => whnf));refine call_sel (E := fun (x : Bool) => DV.one (D.b x)) h (fun x6 h1 => (i_InRange_ok N x1.mScore 0 99 h1)) (fun x6 hx6 h => ?_)
                  (focus ((conv=>whnf);repeat ((first|refine zo _ ?_|refine zr _ rfl ?_|refine zn _ ?_|refine zs _ ?_|refine zd _ ?_|refine zw _ (by kernel_rfl) ?_);conv=>whnf)))
                  refine br_sel h (fun _ h => ?_) (fun _ h => ?_)
                  · (focus ((conv=>whnf);repeat ((first|refine zo _ ?_|refine zr _ rfl ?_|refine zn _ ?_|refine zs _ ?_|refine zd _ ?_|refine zw _ (by kernel_rfl) ?_);conv=>whnf)))
                    obtain rfl := some_in h
                    have h : some _ = some _ := congrArg some (show _ = _ from hfp1)
                    obtain rfl := some_in h
                    have h : some _ = some _ := congrArg some (show _ = _ from gt10)
                    obtain rfl := some_in h
                    (first|rfl|exact Nat.le_of_ble_eq_true rfl|exact map_snoc _ _ _|exact map_put _ _ _ _|exact map_rep rfl|(simp [sub] <;> rfl))
                  · (focus ((conv=>whnf);repeat ((first|refine zo _ ?_|refine zr _ rfl ?_|refine zn _ ?_|refine zs _ ?_|refine zd _ ?_|refine zw _ (by kernel_rfl) ?_);conv=>whnf)))
                    obtain rfl := some_in h
                    refine loop_back hfp1 ?_
                    (refine weak_go ?_;(repeat ((conv=>whnf);refine And.intro (by (first|rfl|exact Nat.le_of_ble_eq_true rfl|exact map_snoc _ _ _|exact map_put _ _ _ _|exact map_rep rfl|(simp [sub] <;> rfl))) ?_));(conv=>whnf);exact trivial)
        · (focus ((conv=>whnf);repeat ((first|refine zo _ ?_|refine zr _ rfl ?_|refine zn _ ?_|refine zs _ ?_|refine zd _ ?_|refine zw _ (by kernel_rfl) ?_);conv=>whnf)))
          (focus (refine Or.inl ?_; conv => whnf));refine call_sel (E := fun (x : Bool) => DV.one (D.b x)) h (fun x7 h1 => (i_IsWord_ok N x1.mWord h1)) (fun x7 hx7 h => ?_)
          (focus ((conv=>whnf);repeat ((first|refine zo _ ?_|refine zr _ rfl ?_|refine zn _ ?_|refine zs _ ?_|refine zd _ ?_|refine zw _ (by kernel_rfl) ?_);conv=>whnf)))
          refine br_sel h (fun _ h => ?_) (fun _ h => ?_)
          · (focus ((conv=>whnf);repeat ((first|refine zo _ ?_|refine zr _ rfl ?_|refine zn _ ?_|refine zs _ ?_|refine zd _ ?_|refine zw _ (by kernel_rfl) ?_);conv=>whnf)))
            obtain rfl := some_in h
            have h : some _ = some _ := congrArg some (show _ = _ from hfp1)
            obtain rfl := some_in h
            have h : some _ = some _ := congrArg some (show _ = _ from gt10)
            obtain rfl := some_in h
            (first|rfl|exact Nat.le_of_ble_eq_true rfl|exact map_snoc _ _ _|exact map_put _ _ _ _|exact map_rep rfl|(simp [sub] <;> rfl))
          · (focus ((conv=>whnf);repeat ((first|refine zo _ ?_|refine zr _ rfl ?_|refine zn _ ?_|refine zs _ ?_|refine zd _ ?_|refine zw _ (by kernel_rfl) ?_);conv=>whnf)))
            (focus (refine Or.inl ?_; conv => whnf));refine call_sel (E := fun (x : Bool) => DV.one (D.b x)) h (fun x8 h1 => (i_InRange_ok N x1.mFrom 0 x1.mUntil h1)) (fun x8 hx8 h => ?_)
            (focus ((conv=>whnf);repeat ((first|refine zo _ ?_|refine zr _ rfl ?_|refine zn _ ?_|refine zs _ ?_|refine zd _ ?_|refine zw _ (by kernel_rfl) ?_);conv=>whnf)))
            refine br_sel h (fun _ h => ?_) (fun _ h => ?_)
            · (focus ((conv=>whnf);repeat ((first|refine zo _ ?_|refine zr _ rfl ?_|refine zn _ ?_|refine zs _ ?_|refine zd _ ?_|refine zw _ (by kernel_rfl) ?_);conv=>whnf)))
              obtain rfl := some_in h
              have h : some _ = some _ := congrArg some (show _ = _ from hfp1)
              obtain rfl := some_in h
              have h : some _ = some _ := congrArg some (show _ = _ from gt10)
              obtain rfl := some_in h
              (first|rfl|exact Nat.le_of_ble_eq_true rfl|exact map_snoc _ _ _|exact map_put _ _ _ _|exact map_rep rfl|(simp [sub] <;> rfl))
            · (focus ((conv=>whnf);repeat ((first|refine zo _ ?_|refine zr _ rfl ?_|refine zn _ ?_|refine zs _ ?_|refine zd _ ?_|refine zw _ (by kernel_rfl) ?_);conv=>whnf)))
              refine br_sel h (fun _ h => ?_) (fun _ h => ?_)
              · (focus ((conv=>whnf);repeat ((first|refine zo _ ?_|refine zr _ rfl ?_|refine zn _ ?_|refine zs _ ?_|refine zd _ ?_|refine zw _ (by kernel_rfl) ?_);conv=>whnf)))
                obtain rfl := some_in h
                have h : some _ = some _ := congrArg some (show _ = _ from hfp1)
                obtain rfl := some_in h
                have h : some _ = some _ := congrArg some (show _ = _ from gt10)
                obtain rfl := some_in h
                (first|rfl|exact Nat.le_of_ble_eq_true rfl|exact map_snoc _ _ _|exact map_put _ _ _ _|exact map_rep rfl|(simp [sub] <;> rfl))
              · (focus ((conv=>whnf);repeat ((first|refine zo _ ?_|refine zr _ rfl ?_|refine zn _ ?_|refine zs _ ?_|refine zd _ ?_|refine zw _ (by kernel_rfl) ?_);conv=>whnf)))
                (focus (refine Or.inl ?_; conv => whnf));refine call_sel (E := fun (x : Bool) => DV.one (D.b x)) h (fun x9 h1 => (i_InRange_ok N x1.mScore 0 99 h1)) (fun x9 hx9 h => ?_)
                (focus ((conv=>whnf);repeat ((first|refine zo _ ?_|refine zr _ rfl ?_|refine zn _ ?_|refine zs _ ?_|refine zd _ ?_|refine zw _ (by kernel_rfl) ?_);conv=>whnf)))
                refine br_sel h (fun _ h => ?_) (fun _ h => ?_)
                · (focus ((conv=>whnf);repeat ((first|refine zo _ ?_|refine zr _ rfl ?_|refine zn _ ?_|refine zs _ ?_|refine zd _ ?_|refine zw _ (by kernel_rfl) ?_);conv=>whnf)))
                  obtain rfl := some_in h
                  have h : some _ = some _ := congrArg some (show _ = _ from hfp1)
                  obtain rfl := some_in h
                  have h : some _ = some _ := congrArg some (show _ = _ from gt10)
                  obtain rfl := some_in h
                  (first|rfl|exact Nat.le_of_ble_eq_true rfl|exact map_snoc _ _ _|exact map_put _ _ _ _|exact map_rep rfl|(simp [sub] <;> rfl))
                · (focus ((conv=>whnf);repeat ((first|refine zo _ ?_|refine zr _ rfl ?_|refine zn _ ?_|refine zs _ ?_|refine zd _ ?_|refine zw _ (by kernel_rfl) ?_);conv=>whnf)))
                  obtain rfl := some_in h
                  refine loop_back hfp1 ?_
                  (refine weak_go ?_;(repeat ((conv=>whnf);refine And.intro (by (first|rfl|exact Nat.le_of_ble_eq_true rfl|exact map_snoc _ _ _|exact map_put _ _ _ _|exact map_rep rfl|(simp [sub] <;> rfl))) ?_));(conv=>whnf);exact trivial)
      · (focus ((conv=>whnf);repeat ((first|refine zo _ ?_|refine zr _ rfl ?_|refine zn _ ?_|refine zs _ ?_|refine zd _ ?_|refine zw _ (by kernel_rfl) ?_);conv=>whnf)))
        obtain rfl := some_in h
        have h : some _ = some _ := congrArg some (show _ = _ from hfp1)
        refine cut_at (()) (some_in h) ?_
        (refine weak_go ?_;(repeat ((conv=>whnf);refine And.intro (by (first|rfl|exact Nat.le_of_ble_eq_true rfl|exact map_snoc _ _ _|exact map_put _ _ _ _|exact map_rep rfl|(simp [sub] <;> rfl))) ?_));(conv=>whnf);exact trivial)
    rintro t10 rfl
    have h : _ = some _ := gt10
    (focus ((conv=>whnf);repeat ((first|refine zo _ ?_|refine zr _ rfl ?_|refine zn _ ?_|refine zs _ ?_|refine zd _ ?_|refine zw _ (by kernel_rfl) ?_);conv=>whnf)))
    obtain rfl := some_in h
    (first|rfl|exact Nat.le_of_ble_eq_true rfl|exact map_snoc _ _ _|exact map_put _ _ _ _|exact map_rep rfl|(simp [sub] <;> rfl))

theorem i_listedAt_1_ok (N : Nat) (v0 : Gx.Listed) (c0 : List UInt8) {r : Bool} (h : i_listedAt_1 N v0 c0 = some r) : Pure Tryz.prog 106 [DV.agg (Gx.Listed.enc v0), DV.dp [D.s c0]] (DV.one (D.b r)) := by
  refine pure_of_walk Tryz.tok Tryz.mixed Tryz.func106 (by kernel_rfl) fun W => ?_
  unfold i_listedAt_1 at h
  (focus ((conv=>whnf);repeat ((first|refine zo _ ?_|refine zr _ rfl ?_|refine zn _ ?_|refine zs _ ?_|refine zd _ ?_|refine zw _ (by kernel_rfl) ?_);conv=>whnf)))
  obtain rfl := some_in h
  (first|rfl|exact Nat.le_of_ble_eq_true rfl|exact map_snoc _ _ _|exact map_put _ _ _ _|exact map_rep rfl|(simp [sub] <;> rfl))

theorem g_slices_IndexFunc_Simpl_Listed_impl_Listed_ok1 (N : Nat) (v0 : List (Gx.Listed)) (v1 : (Gx.Listed) → Option Bool) (fv1 : FuncId) (cv1_0 : List D) (hv1 : ∀ a0 r, v1 a0 = some r → Pure Tryz.prog fv1 [DV.agg (Gx.Listed.enc a0), DV.dp cv1_0] (DV.one (D.b r))) {r : Int} (h : g_slices_IndexFunc_Simpl_Listed_impl_Listed N v0 v1 = some r) : Pure Tryz.prog 105 [DV.one (D.sl 4 (List.map Gx.Listed.enc v0)), DV.fn fv1 [cv1_0]] (DV.one (D.i r)) := by
  refine pure_of_walk Tryz.tok Tryz.mixed Tryz.func105 (by kernel_rfl) fun W => ?_
  unfold g_slices_IndexFunc_Simpl_Listed_impl_Listed at h
  (focus ((conv=>whnf);repeat ((first|refine zo _ ?_|refine zr _ rfl ?_|refine zn _ ?_|refine zd _ ?_|refine zw _ (by kernel_rfl) ?_);conv=>whnf)))
  refine W.r_seq ?_
  (focus ((conv=>whnf);repeat ((first|refine zo _ ?_|refine zr _ rfl ?_|refine zn _ ?_|refine zd _ ?_|refine zw _ (by kernel_rfl) ?_);conv=>whnf)))
  obtain ⟨zt3, h, gt3⟩ := cutb_some h
  refine W.r_cut (fun (t3 : Unit) => ⟨[], [], 1000⟩) (fun t => .nx t = zt3) ?_ ?_
  · (focus ((conv=>whnf);repeat ((first|refine zo _ ?_|refine zr _ rfl ?_|refine zn _ ?_|refine zs _ ?_|refine zd _ ?_|refine zw _ (by kernel_rfl) ?_);conv=>whnf)))
    refine len_sel (m := (v0.length : Int)) (by (first|rfl|simp [sub])) ?_
    (focus ((conv=>whnf);repeat ((first|refine zo _ ?_|refine zr _ rfl ?_|refine zn _ ?_|refine zs _ ?_|refine zd _ ?_|refine zw _ (by kernel_rfl) ?_);conv=>whnf)))
    refine loop_lp (fun (p1 : Int) => ⟨[(0, .d (D.sl 4 (List.map Gx.Listed.enc v0))), (1, .fn fv1 [.dp cv1_0 0]), (7, .d (D.i (v0.length : Int))), (8, .d (D.i p1))], [], 1000⟩) h ?_ ?_
    · (refine weak_go ?_;(repeat ((conv=>whnf);refine And.intro (by (first|rfl|exact Nat.le_of_ble_eq_true rfl|exact map_snoc _ _ _|exact map_put _ _ _ _|exact map_rep rfl|(simp [sub] <;> rfl))) ?_));(conv=>whnf);exact trivial)
    intro np1 p1 yp1 h hfp1
    unfold g_slices_IndexFunc_Simpl_Listed_impl_Listed_L1 at h
    (focus ((conv=>whnf);repeat ((first|refine zo _ ?_|refine zr _ rfl ?_|refine zn _ ?_|refine zs _ ?_|refine zd _ ?_|refine zw _ (by kernel_rfl) ?_);conv=>whnf)))
    refine br_sel h (fun _ h => ?_) (fun _ h => ?_)
    · (focus ((conv=>whnf);repeat ((first|refine zo _ ?_|refine zr _ rfl ?_|refine zn _ ?_|refine zs _ ?_|refine zd _ ?_|refine zw _ (by kernel_rfl) ?_);conv=>whnf)))
      refine idx_sel h (fun x1 hx1 h => ?_)
      (focus ((conv=>whnf);repeat ((first|refine zo _ ?_|refine zr _ rfl ?_|refine zn _ ?_|refine zs _ ?_|refine zd _ ?_|refine zw _ (by kernel_rfl) ?_);conv=>whnf)))
      (focus (refine Or.inl ?_; conv => whnf));refine call_sel (E := fun (x : Bool) => DV.one (D.b x)) h (fun x2 h1 => (hv1 _ _ h1)) (fun x2 hx2 h => ?_)
      (focus ((conv=>whnf);repeat ((first|refine zo _ ?_|refine zr _ rfl ?_|refine zn _ ?_|refine zs _ ?_|refine zd _ ?_|refine zw _ (by kernel_rfl) ?_);conv=>whnf)))
      refine br_sel h (fun _ h => ?_) (fun _ h => ?_)
      · (focus ((conv=>whnf);repeat ((first|refine zo _ ?_|refine zr _ rfl ?_|refine zn _ ?_|refine zs _ ?_|refine zd _ ?_|refine zw _ (by kernel_rfl) ?_);conv=>whnf)))
        obtain rfl := some_in h
        have h : some _ = some _ := congrArg some (show _ = _ from hfp1)
        obtain rfl := some_in h
        have h : some _ = some _ := congrArg some (show _ = _ from gt3)
        obtain rfl := some_in h
        (first|rfl|exact Nat.le_of_ble_eq_true rfl|exact map_snoc _ _ _|exact map_put _ _ _ _|exact map_rep rfl|(simp [sub] <;> rfl))
      · (focus ((conv=>whnf);repeat ((first|refine zo _ ?_|refine zr _ rfl ?_|refine zn _ ?_|refine zs _ ?_|refine zd _ ?_|refine zw _ (by kernel_rfl) ?_);conv=>whnf)))
        obtain rfl := some_in h
        refine loop_back hfp1 ?_
        (refine weak_go ?_;(repeat ((conv=>whnf);refine And.intro (by (first|rfl|exact Nat.le_of_ble_eq_true rfl|exact map_snoc _ _ _|exact map_put _ _ _ _|exact map_rep rfl|(simp [sub] <;> rfl))) ?_));(conv=>whnf);exact trivial)
    · (focus ((conv=>whnf);repeat ((first|refine zo _ ?_|refine zr _ rfl ?_|refine zn _ ?_|refine zs _ ?_|refine zd _ ?_|refine zw _ (by kernel_rfl) ?_);conv=>whnf)))
      obtain rfl := some_in h
      have h : some _ = some _ := congrArg some (show _ = _ from hfp1)
      refine cut_at (()) (some_in h) ?_
      (refine weak_go ?_;(repeat ((conv=>whnf);refine And.intro (by (first|rfl|exact Nat.le_of_ble_eq_true rfl|exact map_snoc _ _ _|exact map_put _ _ _ _|exact map_rep rfl|(simp [sub] <;> rfl))) ?_));(conv=>whnf);exact trivial)
  rintro t3 rfl
  have h : _ = some _ := gt3
  (focus ((conv=>whnf);repeat ((first|refine zo _ ?_|refine zr _ rfl ?_|refine zn _ ?_|refine zs _ ?_|refine zd _ ?_|refine zw _ (by kernel_rfl) ?_);conv=>whnf)))
  obtain rfl := some_in h
  (first|rfl|exact Nat.le_of_ble_eq_true rfl|exact map_snoc _ _ _|exact map_put _ _ _ _|exact map_rep rfl|(simp [sub] <;> rfl))

theorem i_listedAt_ok (N : Nat) (v0 : List (Gx.Listed)) (v1 : List UInt8) {r : Int} (h : i_listedAt N v0 v1 = some r) : Pure Tryz.prog 69 [DV.one (D.sl 4 (List.map Gx.Listed.enc v0)), DV.one (D.s v1)] (DV.one (D.i r)) := by
  refine pure_of_walk Tryz.tok Tryz.mixed Tryz.func69 (by kernel_rfl) fun W => ?_
  unfold i_listedAt at h
  (focus ((conv=>whnf);repeat ((first|refine zo _ ?_|refine zr _ rfl ?_|refine zn _ ?_|refine zs _ ?_|refine zd _ ?_|refine zw _ (by kernel_rfl) ?_);conv=>whnf)))
  (focus (refine Or.inl ?_; conv => whnf));refine call_sel (E := fun (x : Int) => DV.one (D.i x)) h (fun x1 h1 => (g_slices_IndexFunc_Simpl_Listed_impl_Listed_ok1 N v0 (fun a0 => i_listedAt_1 N a0 v1) 106 [D.s v1] (fun a0 _ hh => i_listedAt_1_ok N a0 v1 hh) h1)) (fun x1 hx1 h => ?_)
  (focus ((conv=>whnf);repeat ((first|refine zo _ ?_|refine zr _ rfl ?_|refine zn _ ?_|refine zs _ ?_|refine zd _ ?_|refine zw _ (by kernel_rfl) ?_);conv=>whnf)))
  obtain rfl := some_in h
  (first|rfl|exact Nat.le_of_ble_eq_true rfl|exact map_snoc _ _ _|exact map_put _ _ _ _|exact map_rep rfl|(simp [sub] <;> rfl))

theorem i_ScoreOf_ok (N : Nat) (v0 : List (Gx.Listed)) (v1 : List (List UInt8)) {r : Int} (h : i_ScoreOf N v0 v1 = some r) : Pure Tryz.prog 33 [DV.one (D.sl 4 (List.map Gx.Listed.enc v0)), DV.one (D.sl 1 (List.map Gx.encS v1))] (DV.one (D.i r)) := by
  refine pure_of_walk Tryz.tok Tryz.mixed Tryz.func33 (by kernel_rfl) fun W => ?_
  unfold i_ScoreOf at h
  (focus ((conv=>whnf);repeat ((first|refine zo _ ?_|refine zr _ rfl ?_|refine zn _ ?_|refine zs _ ?_|refine zd _ ?_|refine zw _ (by kernel_rfl) ?_);conv=>whnf)))
  (focus (refine Or.inl ?_; conv => whnf));refine call_sel (E := fun (x : Bool) => DV.one (D.b x)) h (fun x1 h1 => (i_IsList_ok N v0 h1)) (fun x1 hx1 h => ?_)
  (focus ((conv=>whnf);repeat ((first|refine zo _ ?_|refine zr _ rfl ?_|refine zn _ ?_|refine zs _ ?_|refine zd _ ?_|refine zw _ (by kernel_rfl) ?_);conv=>whnf)))
  refine br_sel h (fun _ h => ?_) (fun _ h => ?_)
  · (focus ((conv=>whnf);repeat ((first|refine zo _ ?_|refine zr _ rfl ?_|refine zn _ ?_|refine zs _ ?_|refine zd _ ?_|refine zw _ (by kernel_rfl) ?_);conv=>whnf)))
    obtain rfl := some_in h
    (first|rfl|exact Nat.le_of_ble_eq_true rfl|exact map_snoc _ _ _|exact map_put _ _ _ _|exact map_rep rfl|(simp [sub] <;> rfl))
  · (focus ((conv=>whnf);repeat ((first|refine zo _ ?_|refine zr _ rfl ?_|refine zn _ ?_|refine zd _ ?_|refine zw _ (by kernel_rfl) ?_);conv=>whnf)))
    refine W.r_seq ?_
    (focus ((conv=>whnf);repeat ((first|refine zo _ ?_|refine zr _ rfl ?_|refine zn _ ?_|refine zd _ ?_|refine zw _ (by kernel_rfl) ?_);conv=>whnf)))
    obtain ⟨zt5, h, gt5⟩ := bnd_some h
    refine W.r_cut (fun (t5 : Int) => ⟨[(5, .d (D.i t5))], [], 1000⟩) (fun t => t = zt5) ?_ ?_
    · (focus ((conv=>whnf);repeat ((first|refine zo _ ?_|refine zr _ rfl ?_|refine zn _ ?_|refine zs _ ?_|refine zd _ ?_|refine zw _ (by kernel_rfl) ?_);conv=>whnf)))
      refine len_sel (m := (v1.length : Int)) (by (first|rfl|simp [sub])) ?_
      (focus ((conv=>whnf);repeat ((first|refine zo _ ?_|refine zr _ rfl ?_|refine zn _ ?_|refine zs _ ?_|refine zd _ ?_|refine zw _ (by kernel_rfl) ?_);conv=>whnf)))
      refine loop_lp (fun (p1 : Int × Int) => ⟨[(0, .d (D.sl 4 (List.map Gx.Listed.enc v0))), (5, .d (D.i p1.1)), (12, .d (D.sl 1 (List.map Gx.encS v1))), (13, .d (D.i (v1.length : Int))), (14, .d (D.i p1.2))], [], 1000⟩) h ?_ ?_
      · (refine weak_go ?_;(repeat ((conv=>whnf);refine And.intro (by (first|rfl|exact Nat.le_of_ble_eq_true rfl|exact map_snoc _ _ _|exact map_put _ _ _ _|exact map_rep rfl|(simp [sub] <;> rfl))) ?_));(conv=>whnf);exact trivial)
      intro np1 p1 yp1 h hfp1
      unfold i_ScoreOf_L1 at h
      (focus ((conv=>whnf);repeat ((first|refine zo _ ?_|refine zr _ rfl ?_|refine zn _ ?_|refine zs _ ?_|refine zd _ ?_|refine zw _ (by kernel_rfl) ?_);conv=>whnf)))
      refine br_sel h (fun _ h => ?_) (fun _ h => ?_)
      · (focus ((conv=>whnf);repeat ((first|refine zo _ ?_|refine zr _ rfl ?_|refine zn _ ?_|refine zs _ ?_|refine zd _ ?_|refine zw _ (by kernel_rfl) ?_);conv=>whnf)))
        refine idx_sel h (fun x2 hx2 h => ?_)
        (focus ((conv=>whnf);repeat ((first|refine zo _ ?_|refine zr _ rfl ?_|refine zn _ ?_|refine zs _ ?_|refine zd _ ?_|refine zw _ (by kernel_rfl) ?_);conv=>whnf)))
        (focus (refine Or.inl ?_; conv => whnf));refine call_sel (E := fun (x : Int) => DV.one (D.i x)) h (fun x3 h1 => (i_listedAt_ok N v0 x2 h1)) (fun x3 hx3 h => ?_)
        (focus ((conv=>whnf);repeat ((first|refine zo _ ?_|refine zr _ rfl ?_|refine zn _ ?_|refine zs _ ?_|refine zd _ ?_|refine zw _ (by kernel_rfl) ?_);conv=>whnf)))
        refine br_sel h (fun _ h => ?_) (fun _ h => ?_)
        · (focus ((conv=>whnf);repeat ((first|refine zo _ ?_|refine zr _ rfl ?_|refine zn _ ?_|refine zs _ ?_|refine zd _ ?_|refine zw _ (by kernel_rfl) ?_);conv=>whnf)))
          refine idx_sel h (fun x4 hx4 h => ?_)
          (focus ((conv=>whnf);repeat ((first|refine zo _ ?_|refine zr _ rfl ?_|refine zn _ ?_|refine zs _ ?_|refine zd _ ?_|refine zw _ (by kernel_rfl) ?_);conv=>whnf)))
          obtain rfl := some_in h
          refine loop_back hfp1 ?_
          (refine weak_go ?_;(repeat ((conv=>whnf);refine And.intro (by (first|rfl|exact Nat.le_of_ble_eq_true rfl|exact map_snoc _ _ _|exact map_put _ _ _ _|exact map_rep rfl|(simp [sub] <;> rfl))) ?_));(conv=>whnf);exact trivial)
        · (focus ((conv=>whnf);repeat ((first|refine zo _ ?_|refine zr _ rfl ?_|refine zn _ ?_|refine zs _ ?_|refine zd _ ?_|refine zw _ (by kernel_rfl) ?_);conv=>whnf)))
          obtain rfl := some_in h
          refine loop_back hfp1 ?_
          (refine weak_go ?_;(repeat ((conv=>whnf);refine And.intro (by (first|rfl|exact Nat.le_of_ble_eq_true rfl|exact map_snoc _ _ _|exact map_put _ _ _ _|exact map_rep rfl|(simp [sub] <;> rfl))) ?_));(conv=>whnf);exact trivial)
      · (focus ((conv=>whnf);repeat ((first|refine zo _ ?_|refine zr _ rfl ?_|refine zn _ ?_|refine zs _ ?_|refine zd _ ?_|refine zw _ (by kernel_rfl) ?_);conv=>whnf)))
        obtain rfl := some_in h
        have h : some _ = some _ := congrArg some (show _ = _ from hfp1)
        refine cut_at (p1.1) (some_in h) ?_
        (refine weak_go ?_;(repeat ((conv=>whnf);refine And.intro (by (first|rfl|exact Nat.le_of_ble_eq_true rfl|exact map_snoc _ _ _|exact map_put _ _ _ _|exact map_rep rfl|(simp [sub] <;> rfl))) ?_));(conv=>whnf);exact trivial)
    rintro t5 rfl
    have h : _ = some _ := gt5
    (focus ((conv=>whnf);repeat ((first|refine zo _ ?_|refine zr _ rfl ?_|refine zn _ ?_|refine zs _ ?_|refine zd _ ?_|refine zw _ (by kernel_rfl) ?_);conv=>whnf)))
    obtain rfl := some_in h
    (first|rfl|exact Nat.le_of_ble_eq_true rfl|exact map_snoc _ _ _|exact map_put _ _ _ _|exact map_rep rfl|(simp [sub] <;> rfl))

theorem i_IssueScore_ok (N : Nat) (v0 : Gx.House) (v1 : Int) {r : Int} (h : i_IssueScore N v0 v1 = some r) : Pure Tryz.prog 9 [DV.agg (Gx.House.enc v0), DV.one (D.i v1)] (DV.one (D.i r)) := by
  refine pure_of_walk Tryz.tok Tryz.mixed Tryz.func9 (by kernel_rfl) fun W => ?_
  unfold i_IssueScore at h
  (focus ((conv=>whnf);repeat ((first|refine zo _ ?_|refine zr _ rfl ?_|refine zn _ ?_|refine zs _ ?_|refine zd _ ?_|refine zw _ (by kernel_rfl) ?_);conv=>whnf)))
  (focus (refine Or.inl ?_; conv => whnf));refine call_sel (E := fun (x : Gx.Issue × Bool) => DV.tup [DV.agg (Gx.Issue.enc x.1), DV.one (D.b x.2)]) h (fun x1 h1 => (i_IssueOf_ok N v0 v1 h1)) (fun x1 hx1 h => ?_)
  (focus ((conv=>whnf);repeat ((first|refine zo _ ?_|refine zr _ rfl ?_|refine zn _ ?_|refine zs _ ?_|refine zd _ ?_|refine zw _ (by kernel_rfl) ?_);conv=>whnf)))
  (focus (refine Or.inl ?_; conv => whnf));refine call_sel (E := fun (x : (List (List UInt8))) => DV.one (D.sl 1 (List.map Gx.encS x))) h (fun x2 h1 => (i_Issue_words_ok N x1.1 h1)) (fun x2 hx2 h => ?_)
  (focus ((conv=>whnf);repeat ((first|refine zo _ ?_|refine zr _ rfl ?_|refine zn _ ?_|refine zs _ ?_|refine zd _ ?_|refine zw _ (by kernel_rfl) ?_);conv=>whnf)))
  (focus (refine Or.inl ?_; conv => whnf));refine call_sel (E := fun (x : Int) => DV.one (D.i x)) h (fun x3 h1 => (i_ScoreOf_ok N v0.mList x2 h1)) (fun x3 hx3 h => ?_)
  (focus ((conv=>whnf);repeat ((first|refine zo _ ?_|refine zr _ rfl ?_|refine zn _ ?_|refine zs _ ?_|refine zd _ ?_|refine zw _ (by kernel_rfl) ?_);conv=>whnf)))
  obtain rfl := some_in h
  (first|rfl|exact Nat.le_of_ble_eq_true rfl|exact map_snoc _ _ _|exact map_put _ _ _ _|exact map_rep rfl|(simp [sub] <;> rfl))

theorem l_eqListed_ok (N : Nat) (v0 : Gx.Listed) (v1 : Gx.Listed) {r : Bool} (h : l_eqListed N v0 v1 = some r) : Pure Tryz.prog 71 [DV.agg (Gx.Listed.enc v0), DV.agg (Gx.Listed.enc v1)] (DV.one (D.b r)) := by
  refine pure_of_walk Tryz.tok Tryz.mixed Tryz.func71 (by kernel_rfl) fun W => ?_
  unfold l_eqListed at h
  (focus ((conv=>whnf);repeat ((first|refine zo _ ?_|refine zr _ rfl ?_|refine zn _ ?_|refine zs _ ?_|refine zd _ ?_|refine zw _ (by kernel_rfl) ?_);conv=>whnf)))
  refine br_sel h (fun _ h => ?_) (fun _ h => ?_)
  · (focus ((conv=>whnf);repeat ((first|refine zo _ ?_|refine zr _ rfl ?_|refine zn _ ?_|refine zs _ ?_|refine zd _ ?_|refine zw _ (by kernel_rfl) ?_);conv=>whnf)))
    obtain rfl := some_in h
    (first|rfl|exact Nat.le_of_ble_eq_true rfl|exact map_snoc _ _ _|exact map_put _ _ _ _|exact map_rep rfl|(simp [sub] <;> rfl))
  · (focus ((conv=>whnf);repeat ((first|refine zo _ ?_|refine zr _ rfl ?_|refine zn _ ?_|refine zs _ ?_|refine zd _ ?_|refine zw _ (by kernel_rfl) ?_);conv=>whnf)))
    refine br_sel h (fun _ h => ?_) (fun _ h => ?_)
    · (focus ((conv=>whnf);repeat ((first|refine zo _ ?_|refine zr _ rfl ?_|refine zn _ ?_|refine zs _ ?_|refine zd _ ?_|refine zw _ (by kernel_rfl) ?_);conv=>whnf)))
      obtain rfl := some_in h
      (first|rfl|exact Nat.le_of_ble_eq_true rfl|exact map_snoc _ _ _|exact map_put _ _ _ _|exact map_rep rfl|(simp [sub] <;> rfl))
    · (focus ((conv=>whnf);repeat ((first|refine zo _ ?_|refine zr _ rfl ?_|refine zn _ ?_|refine zs _ ?_|refine zd _ ?_|refine zw _ (by kernel_rfl) ?_);conv=>whnf)))
      refine br_sel h (fun _ h => ?_) (fun _ h => ?_)
      · (focus ((conv=>whnf);repeat ((first|refine zo _ ?_|refine zr _ rfl ?_|refine zn _ ?_|refine zs _ ?_|refine zd _ ?_|refine zw _ (by kernel_rfl) ?_);conv=>whnf)))
        obtain rfl := some_in h
        (first|rfl|exact Nat.le_of_ble_eq_true rfl|exact map_snoc _ _ _|exact map_put _ _ _ _|exact map_rep rfl|(simp [sub] <;> rfl))
      · (focus ((conv=>whnf);repeat ((first|refine zo _ ?_|refine zr _ rfl ?_|refine zn _ ?_|refine zs _ ?_|refine zd _ ?_|refine zw _ (by kernel_rfl) ?_);conv=>whnf)))
        refine br_sel h (fun _ h => ?_) (fun _ h => ?_)
        · (focus ((conv=>whnf);repeat ((first|refine zo _ ?_|refine zr _ rfl ?_|refine zn _ ?_|refine zs _ ?_|refine zd _ ?_|refine zw _ (by kernel_rfl) ?_);conv=>whnf)))
          obtain rfl := some_in h
          (first|rfl|exact Nat.le_of_ble_eq_true rfl|exact map_snoc _ _ _|exact map_put _ _ _ _|exact map_rep rfl|(simp [sub] <;> rfl))
        · (focus ((conv=>whnf);repeat ((first|refine zo _ ?_|refine zr _ rfl ?_|refine zn _ ?_|refine zs _ ?_|refine zd _ ?_|refine zw _ (by kernel_rfl) ?_);conv=>whnf)))
          obtain rfl := some_in h
          (first|rfl|exact Nat.le_of_ble_eq_true rfl|exact map_snoc _ _ _|exact map_put _ _ _ _|exact map_rep rfl|(simp [sub] <;> rfl))

theorem l_eqListedS_ok (N : Nat) (v0 : List (Gx.Listed)) (v1 : List (Gx.Listed)) {r : Bool} (h : l_eqListedS N v0 v1 = some r) : Pure Tryz.prog 35 [DV.one (D.sl 4 (List.map Gx.Listed.enc v0)), DV.one (D.sl 4 (List.map Gx.Listed.enc v1))] (DV.one (D.b r)) := by
  refine pure_of_walk Tryz.tok Tryz.mixed Tryz.func35 (by kernel_rfl) fun W => ?_
  unfold l_eqListedS at h
  (focus ((conv=>whnf);repeat ((first|refine zo _ ?_|refine zr _ rfl ?_|refine zn _ ?_|refine zs _ ?_|refine zd _ ?_|refine zw _ (by kernel_rfl) ?_);conv=>whnf)))
  refine len_sel (m := (v0.length : Int)) (by (first|rfl|simp [sub])) ?_
  (focus ((conv=>whnf);repeat ((first|refine zo _ ?_|refine zr _ rfl ?_|refine zn _ ?_|refine zs _ ?_|refine zd _ ?_|refine zw _ (by kernel_rfl) ?_);conv=>whnf)))
  refine len_sel (m := (v1.length : Int)) (by (first|rfl|simp [sub])) ?_
  (focus ((conv=>whnf);repeat ((first|refine zo _ ?_|refine zr _ rfl ?_|refine zn _ ?_|refine zs _ ?_|refine zd _ ?_|refine zw _ (by kernel_rfl) ?_);conv=>whnf)))
  refine br_sel h (fun _ h => ?_) (fun _ h => ?_)
  · (focus ((conv=>whnf);repeat ((first|refine zo _ ?_|refine zr _ rfl ?_|refine zn _ ?_|refine zs _ ?_|refine zd _ ?_|refine zw _ (by kernel_rfl) ?_);conv=>whnf)))
    obtain rfl := some_in h
    (first|rfl|exact Nat.le_of_ble_eq_true rfl|exact map_snoc _ _ _|exact map_put _ _ _ _|exact map_rep rfl|(simp [sub] <;> rfl))
  · (focus ((conv=>whnf);repeat ((first|refine zo _ ?_|refine zr _ rfl ?_|refine zn _ ?_|refine zd _ ?_|refine zw _ (by kernel_rfl) ?_);conv=>whnf)))
    obtain ⟨zt4, h, gt4⟩ := cutb_some h
    refine W.r_cut (fun (t4 : Unit) => ⟨[], [], 1000⟩) (fun t => .nx t = zt4) ?_ ?_
    · (focus ((conv=>whnf);repeat ((first|refine zo _ ?_|refine zr _ rfl ?_|refine zn _ ?_|refine zs _ ?_|refine zd _ ?_|refine zw _ (by kernel_rfl) ?_);conv=>whnf)))
      refine loop_lp (fun (p1 : Int) => ⟨[(0, .d (D.sl 4 (List.map Gx.Listed.enc v0))), (1, .d (D.sl 4 (List.map Gx.Listed.enc v1))), (5, .d (D.i p1))], [], 1000⟩) h ?_ ?_
      · (refine weak_go ?_;(repeat ((conv=>whnf);refine And.intro (by (first|rfl|exact Nat.le_of_ble_eq_true rfl|exact map_snoc _ _ _|exact map_put _ _ _ _|exact map_rep rfl|(simp [sub] <;> rfl))) ?_));(conv=>whnf);exact trivial)
      intro np1 p1 yp1 h hfp1
      unfold l_eqListedS_L1 at h
      (focus ((conv=>whnf);repeat ((first|refine zo _ ?_|refine zr _ rfl ?_|refine zn _ ?_|refine zs _ ?_|refine zd _ ?_|refine zw _ (by kernel_rfl) ?_);conv=>whnf)))
      refine len_sel (m := (v0.length : Int)) (by (first|rfl|simp [sub])) ?_
      (focus ((conv=>whnf);repeat ((first|refine zo _ ?_|refine zr _ rfl ?_|refine zn _ ?_|refine zs _ ?_|refine zd _ ?_|refine zw _ (by kernel_rfl) ?_);conv=>whnf)))
      refine br_sel h (fun _ h => ?_) (fun _ h => ?_)
      · (focus ((conv=>whnf);repeat ((first|refine zo _ ?_|refine zr _ rfl ?_|refine zn _ ?_|refine zs _ ?_|refine zd _ ?_|refine zw _ (by kernel_rfl) ?_);conv=>whnf)))
        refine idx_sel h (fun x1 hx1 h => ?_)
        (focus ((conv=>whnf);repeat ((first|refine zo _ ?_|refine zr _ rfl ?_|refine zn _ ?_|refine zs _ ?_|refine zd _ ?_|refine zw _ (by kernel_rfl) ?_);conv=>whnf)))
        refine idx_sel h (fun x2 hx2 h => ?_)
        (focus ((conv=>whnf);repeat ((first|refine zo _ ?_|refine zr _ rfl ?_|refine zn _ ?_|refine zs _ ?_|refine zd _ ?_|refine zw _ (by kernel_rfl) ?_);conv=>whnf)))
        (focus (refine Or.inl ?_; conv => whnf));refine call_sel (E := fun (x : Bool) => DV.one (D.b x)) h (fun x3 h1 => (l_eqListed_ok N x1 x2 h1)) (fun x3 hx3 h => ?_)
        (focus ((conv=>whnf);repeat ((first|refine zo _ ?_|refine zr _ rfl ?_|refine zn _ ?_|refine zs _ ?_|refine zd _ ?_|refine zw _ (by kernel_rfl) ?_);conv=>whnf)))
        refine br_sel h (fun _ h => ?_) (fun _ h => ?_)
        · (focus ((conv=>whnf);repeat ((first|refine zo _ ?_|refine zr _ rfl ?_|refine zn _ ?_|refine zs _ ?_|refine zd _ ?_|refine zw _ (by kernel_rfl) ?_);conv=>whnf)))
          obtain rfl := some_in h
          have h : some _ = some _ := congrArg some (show _ = _ from hfp1)
          obtain rfl := some_in h
          have h : some _ = some _ := congrArg some (show _ = _ from gt4)
          obtain rfl := some_in h
          (first|rfl|exact Nat.le_of_ble_eq_true rfl|exact map_snoc _ _ _|exact map_put _ _ _ _|exact map_rep rfl|(simp [sub] <;> rfl))
        · (focus ((conv=>whnf);repeat ((first|refine zo _ ?_|refine zr _ rfl ?_|refine zn _ ?_|refine zs _ ?_|refine zd _ ?_|refine zw _ (by kernel_rfl) ?_);conv=>whnf)))
          obtain rfl := some_in h
          refine loop_back hfp1 ?_
          (refine weak_go ?_;(repeat ((conv=>whnf);refine And.intro (by (first|rfl|exact Nat.le_of_ble_eq_true rfl|exact map_snoc _ _ _|exact map_put _ _ _ _|exact map_rep rfl|(simp [sub] <;> rfl))) ?_));(conv=>whnf);exact trivial)
      · (focus ((conv=>whnf);repeat ((first|refine zo _ ?_|refine zr _ rfl ?_|refine zn _ ?_|refine zs _ ?_|refine zd _ ?_|refine zw _ (by kernel_rfl) ?_);conv=>whnf)))
        obtain rfl := some_in h
        have h : some _ = some _ := congrArg some (show _ = _ from hfp1)
        refine cut_at (()) (some_in h) ?_
        (refine weak_go ?_;(repeat ((conv=>whnf);refine And.intro (by (first|rfl|exact Nat.le_of_ble_eq_true rfl|exact map_snoc _ _ _|exact map_put _ _ _ _|exact map_rep rfl|(simp [sub] <;> rfl))) ?_));(conv=>whnf);exact trivial)
    rintro t4 rfl
    have h : _ = some _ := gt4
    (focus ((conv=>whnf);repeat ((first|refine zo _ ?_|refine zr _ rfl ?_|refine zn _ ?_|refine zs _ ?_|refine zd _ ?_|refine zw _ (by kernel_rfl) ?_);conv=>whnf)))
    obtain rfl := some_in h
    (first|rfl|exact Nat.le_of_ble_eq_true rfl|exact map_snoc _ _ _|exact map_put _ _ _ _|exact map_rep rfl|(simp [sub] <;> rfl))

theorem l_eqMeaning_ok (N : Nat) (v0 : Gx.Meaning) (v1 : Gx.Meaning) {r : Bool} (h : l_eqMeaning N v0 v1 = some r) : Pure Tryz.prog 72 [DV.agg (Gx.Meaning.enc v0), DV.agg (Gx.Meaning.enc v1)] (DV.one (D.b r)) := by
  refine pure_of_walk Tryz.tok Tryz.mixed Tryz.func72 (by kernel_rfl) fun W => ?_
  unfold l_eqMeaning at h
  (focus ((conv=>whnf);repeat ((first|refine zo _ ?_|refine zr _ rfl ?_|refine zn _ ?_|refine zs _ ?_|refine zd _ ?_|refine zw _ (by kernel_rfl) ?_);conv=>whnf)))
  refine br_sel h (fun _ h => ?_) (fun _ h => ?_)
  · (focus ((conv=>whnf);repeat ((first|refine zo _ ?_|refine zr _ rfl ?_|refine zn _ ?_|refine zs _ ?_|refine zd _ ?_|refine zw _ (by kernel_rfl) ?_);conv=>whnf)))
    obtain rfl := some_in h
    (first|rfl|exact Nat.le_of_ble_eq_true rfl|exact map_snoc _ _ _|exact map_put _ _ _ _|exact map_rep rfl|(simp [sub] <;> rfl))
  · (focus ((conv=>whnf);repeat ((first|refine zo _ ?_|refine zr _ rfl ?_|refine zn _ ?_|refine zs _ ?_|refine zd _ ?_|refine zw _ (by kernel_rfl) ?_);conv=>whnf)))
    refine br_sel h (fun _ h => ?_) (fun _ h => ?_)
    · (focus ((conv=>whnf);repeat ((first|refine zo _ ?_|refine zr _ rfl ?_|refine zn _ ?_|refine zs _ ?_|refine zd _ ?_|refine zw _ (by kernel_rfl) ?_);conv=>whnf)))
      obtain rfl := some_in h
      (first|rfl|exact Nat.le_of_ble_eq_true rfl|exact map_snoc _ _ _|exact map_put _ _ _ _|exact map_rep rfl|(simp [sub] <;> rfl))
    · (focus ((conv=>whnf);repeat ((first|refine zo _ ?_|refine zr _ rfl ?_|refine zn _ ?_|refine zs _ ?_|refine zd _ ?_|refine zw _ (by kernel_rfl) ?_);conv=>whnf)))
      obtain rfl := some_in h
      (first|rfl|exact Nat.le_of_ble_eq_true rfl|exact map_snoc _ _ _|exact map_put _ _ _ _|exact map_rep rfl|(simp [sub] <;> rfl))

theorem l_eqMeaningS_ok (N : Nat) (v0 : List (Gx.Meaning)) (v1 : List (Gx.Meaning)) {r : Bool} (h : l_eqMeaningS N v0 v1 = some r) : Pure Tryz.prog 36 [DV.one (D.sl 2 (List.map Gx.Meaning.enc v0)), DV.one (D.sl 2 (List.map Gx.Meaning.enc v1))] (DV.one (D.b r)) := by
  refine pure_of_walk Tryz.tok Tryz.mixed Tryz.func36 (by kernel_rfl) fun W => ?_
  unfold l_eqMeaningS at h
  (focus ((conv=>whnf);repeat ((first|refine zo _ ?_|refine zr _ rfl ?_|refine zn _ ?_|refine zs _ ?_|refine zd _ ?_|refine zw _ (by kernel_rfl) ?_);conv=>whnf)))
  refine len_sel (m := (v0.length : Int)) (by (first|rfl|simp [sub])) ?_
  (focus ((conv=>whnf);repeat ((first|refine zo _ ?_|refine zr _ rfl ?_|refine zn _ ?_|refine zs _ ?_|refine zd _ ?_|refine zw _ (by kernel_rfl) ?_);conv=>whnf)))
  refine len_sel (m := (v1.length : Int)) (by (first|rfl|simp [sub])) ?_
  (focus ((conv=>whnf);repeat ((first|refine zo _ ?_|refine zr _ rfl ?_|refine zn _ ?_|refine zs _ ?_|refine zd _ ?_|refine zw _ (by kernel_rfl) ?_);conv=>whnf)))
  refine br_sel h (fun _ h => ?_) (fun _ h => ?_)
  · (focus ((conv=>whnf);repeat ((first|refine zo _ ?_|refine zr _ rfl ?_|refine zn _ ?_|refine zs _ ?_|refine zd _ ?_|refine zw _ (by kernel_rfl) ?_);conv=>whnf)))
    obtain rfl := some_in h
    (first|rfl|exact Nat.le_of_ble_eq_true rfl|exact map_snoc _ _ _|exact map_put _ _ _ _|exact map_rep rfl|(simp [sub] <;> rfl))
  · (focus ((conv=>whnf);repeat ((first|refine zo _ ?_|refine zr _ rfl ?_|refine zn _ ?_|refine zd _ ?_|refine zw _ (by kernel_rfl) ?_);conv=>whnf)))
    obtain ⟨zt4, h, gt4⟩ := cutb_some h
    refine W.r_cut (fun (t4 : Unit) => ⟨[], [], 1000⟩) (fun t => .nx t = zt4) ?_ ?_
    · (focus ((conv=>whnf);repeat ((first|refine zo _ ?_|refine zr _ rfl ?_|refine zn _ ?_|refine zs _ ?_|refine zd _ ?_|refine zw _ (by kernel_rfl) ?_);conv=>whnf)))
      refine loop_lp (fun (p1 : Int) => ⟨[(0, .d (D.sl 2 (List.map Gx.Meaning.enc v0))), (1, .d (D.sl 2 (List.map Gx.Meaning.enc v1))), (5, .d (D.i p1))], [], 1000⟩) h ?_ ?_
      · (refine weak_go ?_;(repeat ((conv=>whnf);refine And.intro (by (first|rfl|exact Nat.le_of_ble_eq_true rfl|exact map_snoc _ _ _|exact map_put _ _ _ _|exact map_rep rfl|(simp [sub] <;> rfl))) ?_));(conv=>whnf);exact trivial)
      intro np1 p1 yp1 h hfp1
      unfold l_eqMeaningS_L1 at h
      (focus ((conv=>whnf);repeat ((first|refine zo _ ?_|refine zr _ rfl ?_|refine zn _ ?_|refine zs _ ?_|refine zd _ ?_|refine zw _ (by kernel_rfl) ?_);conv=>whnf)))
      refine len_sel (m := (v0.length : Int)) (by (first|rfl|simp [sub])) ?_
      (focus ((conv=>whnf);repeat ((first|refine zo _ ?_|refine zr _ rfl ?_|refine zn _ ?_|refine zs _ ?_|refine zd _ ?_|refine zw _ (by kernel_rfl) ?_);conv=>whnf)))
      refine br_sel h (fun _ h => ?_) (fun _ h => ?_)
      · (focus ((conv=>whnf);repeat ((first|refine zo _ ?_|refine zr _ rfl ?_|refine zn _ ?_|refine zs _ ?_|refine zd _ ?_|refine zw _ (by kernel_rfl) ?_);conv=>whnf)))
        refine idx_sel h (fun x1 hx1 h => ?_)
        (focus ((conv=>whnf);repeat ((first|refine zo _ ?_|refine zr _ rfl ?_|refine zn _ ?_|refine zs _ ?_|refine zd _ ?_|refine zw _ (by kernel_rfl) ?_);conv=>whnf)))
        refine idx_sel h (fun x2 hx2 h => ?_)
        (focus ((conv=>whnf);repeat ((first|refine zo _ ?_|refine zr _ rfl ?_|refine zn _ ?_|refine zs _ ?_|refine zd _ ?_|refine zw _ (by kernel_rfl) ?_);conv=>whnf)))
        (focus (refine Or.inl ?_; conv => whnf));refine call_sel (E := fun (x : Bool) => DV.one (D.b x)) h (fun x3 h1 => (l_eqMeaning_ok N x1 x2 h1)) (fun x3 hx3 h => ?_)
        (focus ((conv=>whnf);repeat ((first|refine zo _ ?_|refine zr _ rfl ?_|refine zn _ ?_|refine zs _ ?_|refine zd _ ?_|refine zw _ (by kernel_rfl) ?_);conv=>whnf)))
        refine br_sel h (fun _ h => ?_) (fun _ h => ?_)
        · (focus ((conv=>whnf);repeat ((first|refine zo _ ?_|refine zr _ rfl ?_|refine zn _ ?_|refine zs _ ?_|refine zd _ ?_|refine zw _ (by kernel_rfl) ?_);conv=>whnf)))
          obtain rfl := some_in h
          have h : some _ = some _ := congrArg some (show _ = _ from hfp1)
          obtain rfl := some_in h
          have h : some _ = some _ := congrArg some (show _ = _ from gt4)
          obtain rfl := some_in h
          (first|rfl|exact Nat.le_of_ble_eq_true rfl|exact map_snoc _ _ _|exact map_put _ _ _ _|exact map_rep rfl|(simp [sub] <;> rfl))
        · (focus ((conv=>whnf);repeat ((first|refine zo _ ?_|refine zr _ rfl ?_|refine zn _ ?_|refine zs _ ?_|refine zd _ ?_|refine zw _ (by kernel_rfl) ?_);conv=>whnf)))
          obtain rfl := some_in h
          refine loop_back hfp1 ?_
          (refine weak_go ?_;(repeat ((conv=>whnf);refine And.intro (by (first|rfl|exact Nat.le_of_ble_eq_true rfl|exact map_snoc _ _ _|exact map_put _ _ _ _|exact map_rep rfl|(simp [sub] <;> rfl))) ?_));(conv=>whnf);exact trivial)
      · (focus ((conv=>whnf);repeat ((first|refine zo _ ?_|refine zr _ rfl ?_|refine zn _ ?_|refine zs _ ?_|refine zd _ ?_|refine zw _ (by kernel_rfl) ?_);conv=>whnf)))
        obtain rfl := some_in h
        have h : some _ = some _ := congrArg some (show _ = _ from hfp1)
        refine cut_at (()) (some_in h) ?_
        (refine weak_go ?_;(repeat ((conv=>whnf);refine And.intro (by (first|rfl|exact Nat.le_of_ble_eq_true rfl|exact map_snoc _ _ _|exact map_put _ _ _ _|exact map_rep rfl|(simp [sub] <;> rfl))) ?_));(conv=>whnf);exact trivial)
    rintro t4 rfl
    have h : _ = some _ := gt4
    (focus ((conv=>whnf);repeat ((first|refine zo _ ?_|refine zr _ rfl ?_|refine zn _ ?_|refine zs _ ?_|refine zd _ ?_|refine zw _ (by kernel_rfl) ?_);conv=>whnf)))
    obtain rfl := some_in h
    (first|rfl|exact Nat.le_of_ble_eq_true rfl|exact map_snoc _ _ _|exact map_put _ _ _ _|exact map_rep rfl|(simp [sub] <;> rfl))

theorem l_eqGrid_ok (N : Nat) (v0 : Gx.Grid) (v1 : Gx.Grid) {r : Bool} (h : l_eqGrid N v0 v1 = some r) : Pure Tryz.prog 73 [DV.agg (Gx.Grid.enc v0), DV.agg (Gx.Grid.enc v1)] (DV.one (D.b r)) := by
  refine pure_of_walk Tryz.tok Tryz.mixed Tryz.func73 (by kernel_rfl) fun W => ?_
  unfold l_eqGrid at h
  (focus ((conv=>whnf);repeat ((first|refine zo _ ?_|refine zr _ rfl ?_|refine zn _ ?_|refine zs _ ?_|refine zd _ ?_|refine zw _ (by kernel_rfl) ?_);conv=>whnf)))
  refine br_sel h (fun _ h => ?_) (fun _ h => ?_)
  · (focus ((conv=>whnf);repeat ((first|refine zo _ ?_|refine zr _ rfl ?_|refine zn _ ?_|refine zs _ ?_|refine zd _ ?_|refine zw _ (by kernel_rfl) ?_);conv=>whnf)))
    obtain rfl := some_in h
    (first|rfl|exact Nat.le_of_ble_eq_true rfl|exact map_snoc _ _ _|exact map_put _ _ _ _|exact map_rep rfl|(simp [sub] <;> rfl))
  · (focus ((conv=>whnf);repeat ((first|refine zo _ ?_|refine zr _ rfl ?_|refine zn _ ?_|refine zs _ ?_|refine zd _ ?_|refine zw _ (by kernel_rfl) ?_);conv=>whnf)))
    refine br_sel h (fun _ h => ?_) (fun _ h => ?_)
    · (focus ((conv=>whnf);repeat ((first|refine zo _ ?_|refine zr _ rfl ?_|refine zn _ ?_|refine zs _ ?_|refine zd _ ?_|refine zw _ (by kernel_rfl) ?_);conv=>whnf)))
      obtain rfl := some_in h
      (first|rfl|exact Nat.le_of_ble_eq_true rfl|exact map_snoc _ _ _|exact map_put _ _ _ _|exact map_rep rfl|(simp [sub] <;> rfl))
    · (focus ((conv=>whnf);repeat ((first|refine zo _ ?_|refine zr _ rfl ?_|refine zn _ ?_|refine zs _ ?_|refine zd _ ?_|refine zw _ (by kernel_rfl) ?_);conv=>whnf)))
      refine br_sel h (fun _ h => ?_) (fun _ h => ?_)
      · (focus ((conv=>whnf);repeat ((first|refine zo _ ?_|refine zr _ rfl ?_|refine zn _ ?_|refine zs _ ?_|refine zd _ ?_|refine zw _ (by kernel_rfl) ?_);conv=>whnf)))
        obtain rfl := some_in h
        (first|rfl|exact Nat.le_of_ble_eq_true rfl|exact map_snoc _ _ _|exact map_put _ _ _ _|exact map_rep rfl|(simp [sub] <;> rfl))
      · (focus ((conv=>whnf);repeat ((first|refine zo _ ?_|refine zr _ rfl ?_|refine zn _ ?_|refine zs _ ?_|refine zd _ ?_|refine zw _ (by kernel_rfl) ?_);conv=>whnf)))
        obtain rfl := some_in h
        (first|rfl|exact Nat.le_of_ble_eq_true rfl|exact map_snoc _ _ _|exact map_put _ _ _ _|exact map_rep rfl|(simp [sub] <;> rfl))

theorem l_eqStep_ok (N : Nat) (v0 : Gx.Step) (v1 : Gx.Step) {r : Bool} (h : l_eqStep N v0 v1 = some r) : Pure Tryz.prog 163 [DV.agg (Gx.Step.enc v0), DV.agg (Gx.Step.enc v1)] (DV.one (D.b r)) := by
  refine pure_of_walk Tryz.tok Tryz.mixed Tryz.func163 (by kernel_rfl) fun W => ?_
  unfold l_eqStep at h
  (focus ((conv=>whnf);repeat ((first|refine zo _ ?_|refine zr _ rfl ?_|refine zn _ ?_|refine zs _ ?_|refine zd _ ?_|refine zw _ (by kernel_rfl) ?_);conv=>whnf)))
  refine br_sel h (fun _ h => ?_) (fun _ h => ?_)
  · (focus ((conv=>whnf);repeat ((first|refine zo _ ?_|refine zr _ rfl ?_|refine zn _ ?_|refine zs _ ?_|refine zd _ ?_|refine zw _ (by kernel_rfl) ?_);conv=>whnf)))
    obtain rfl := some_in h
    (first|rfl|exact Nat.le_of_ble_eq_true rfl|exact map_snoc _ _ _|exact map_put _ _ _ _|exact map_rep rfl|(simp [sub] <;> rfl))
  · (focus ((conv=>whnf);repeat ((first|refine zo _ ?_|refine zr _ rfl ?_|refine zn _ ?_|refine zs _ ?_|refine zd _ ?_|refine zw _ (by kernel_rfl) ?_);conv=>whnf)))
    refine br_sel h (fun _ h => ?_) (fun _ h => ?_)
    · (focus ((conv=>whnf);repeat ((first|refine zo _ ?_|refine zr _ rfl ?_|refine zn _ ?_|refine zs _ ?_|refine zd _ ?_|refine zw _ (by kernel_rfl) ?_);conv=>whnf)))
      obtain rfl := some_in h
      (first|rfl|exact Nat.le_of_ble_eq_true rfl|exact map_snoc _ _ _|exact map_put _ _ _ _|exact map_rep rfl|(simp [sub] <;> rfl))
    · (focus ((conv=>whnf);repeat ((first|refine zo _ ?_|refine zr _ rfl ?_|refine zn _ ?_|refine zs _ ?_|refine zd _ ?_|refine zw _ (by kernel_rfl) ?_);conv=>whnf)))
      refine br_sel h (fun _ h => ?_) (fun _ h => ?_)
      · (focus ((conv=>whnf);repeat ((first|refine zo _ ?_|refine zr _ rfl ?_|refine zn _ ?_|refine zs _ ?_|refine zd _ ?_|refine zw _ (by kernel_rfl) ?_);conv=>whnf)))
        obtain rfl := some_in h
        (first|rfl|exact Nat.le_of_ble_eq_true rfl|exact map_snoc _ _ _|exact map_put _ _ _ _|exact map_rep rfl|(simp [sub] <;> rfl))
      · (focus ((conv=>whnf);repeat ((first|refine zo _ ?_|refine zr _ rfl ?_|refine zn _ ?_|refine zs _ ?_|refine zd _ ?_|refine zw _ (by kernel_rfl) ?_);conv=>whnf)))
        refine br_sel h (fun _ h => ?_) (fun _ h => ?_)
        · (focus ((conv=>whnf);repeat ((first|refine zo _ ?_|refine zr _ rfl ?_|refine zn _ ?_|refine zs _ ?_|refine zd _ ?_|refine zw _ (by kernel_rfl) ?_);conv=>whnf)))
          obtain rfl := some_in h
          (first|rfl|exact Nat.le_of_ble_eq_true rfl|exact map_snoc _ _ _|exact map_put _ _ _ _|exact map_rep rfl|(simp [sub] <;> rfl))
        · (focus ((conv=>whnf);repeat ((first|refine zo _ ?_|refine zr _ rfl ?_|refine zn _ ?_|refine zs _ ?_|refine zd _ ?_|refine zw _ (by kernel_rfl) ?_);conv=>whnf)))
          obtain rfl := some_in h
          (first|rfl|exact Nat.le_of_ble_eq_true rfl|exact map_snoc _ _ _|exact map_put _ _ _ _|exact map_rep rfl|(simp [sub] <;> rfl))

theorem l_eqStepS_ok (N : Nat) (v0 : List (Gx.Step)) (v1 : List (Gx.Step)) {r : Bool} (h : l_eqStepS N v0 v1 = some r) : Pure Tryz.prog 140 [DV.one (D.sl 4 (List.map Gx.Step.enc v0)), DV.one (D.sl 4 (List.map Gx.Step.enc v1))] (DV.one (D.b r)) := by
  refine pure_of_walk Tryz.tok Tryz.mixed Tryz.func140 (by kernel_rfl) fun W => ?_
  unfold l_eqStepS at h
  (focus ((conv=>whnf);repeat ((first|refine zo _ ?_|refine zr _ rfl ?_|refine zn _ ?_|refine zs _ ?_|refine zd _ ?_|refine zw _ (by kernel_rfl) ?_);conv=>whnf)))
  refine len_sel (m := (v0.length : Int)) (by (first|rfl|simp [sub])) ?_
  (focus ((conv=>whnf);repeat ((first|refine zo _ ?_|refine zr _ rfl ?_|refine zn _ ?_|refine zs _ ?_|refine zd _ ?_|refine zw _ (by kernel_rfl) ?_);conv=>whnf)))
  refine len_sel (m := (v1.length : Int)) (by (first|rfl|simp [sub])) ?_
  (focus ((conv=>whnf);repeat ((first|refine zo _ ?_|refine zr _ rfl ?_|refine zn _ ?_|refine zs _ ?_|refine zd _ ?_|refine zw _ (by kernel_rfl) ?_);conv=>whnf)))
  refine br_sel h (fun _ h => ?_) (fun _ h => ?_)
  · (focus ((conv=>whnf);repeat ((first|refine zo _ ?_|refine zr _ rfl ?_|refine zn _ ?_|refine zs _ ?_|refine zd _ ?_|refine zw _ (by kernel_rfl) ?_);conv=>whnf)))
    obtain rfl := some_in h
    (first|rfl|exact Nat.le_of_ble_eq_true rfl|exact map_snoc _ _ _|exact map_put _ _ _ _|exact map_rep rfl|(simp [sub] <;> rfl))
  · (focus ((conv=>whnf);repeat ((first|refine zo _ ?_|refine zr _ rfl ?_|refine zn _ ?_|refine zd _ ?_|refine zw _ (by kernel_rfl) ?_);conv=>whnf)))
    obtain ⟨zt4, h, gt4⟩ := cutb_some h
    refine W.r_cut (fun (t4 : Unit) => ⟨[], [], 1000⟩) (fun t => .nx t = zt4) ?_ ?_
    · (focus ((conv=>whnf);repeat ((first|refine zo _ ?_|refine zr _ rfl ?_|refine zn _ ?_|refine zs _ ?_|refine zd _ ?_|refine zw _ (by kernel_rfl) ?_);conv=>whnf)))
      refine loop_lp (fun (p1 : Int) => ⟨[(0, .d (D.sl 4 (List.map Gx.Step.enc v0))), (1, .d (D.sl 4 (List.map Gx.Step.enc v1))), (5, .d (D.i p1))], [], 1000⟩) h ?_ ?_
      · (refine weak_go ?_;(repeat ((conv=>whnf);refine And.intro (by (first|rfl|exact Nat.le_of_ble_eq_true rfl|exact map_snoc _ _ _|exact map_put _ _ _ _|exact map_rep rfl|(simp [sub] <;> rfl))) ?_));(conv=>whnf);exact trivial)
      intro np1 p1 yp1 h hfp1
      unfold l_eqStepS_L1 at h
      (focus ((conv=>whnf);repeat ((first|refine zo _ ?_|refine zr _ rfl ?_|refine zn _ ?_|refine zs _ ?_|refine zd _ ?_|refine zw _ (by kernel_rfl) ?_);conv=>whnf)))
      refine len_sel (m := (v0.length : Int)) (by (first|rfl|simp [sub])) ?_
      (focus ((conv=>whnf);repeat ((first|refine zo _ ?_|refine zr _ rfl ?_|refine zn _ ?_|refine zs _ ?_|refine zd _ ?_|refine zw _ (by kernel_rfl) ?_);conv=>whnf)))
      refine br_sel h (fun _ h => ?_) (fun _ h => ?_)
      · (focus ((conv=>whnf);repeat ((first|refine zo _ ?_|refine zr _ rfl ?_|refine zn _ ?_|refine zs _ ?_|refine zd _ ?_|refine zw _ (by kernel_rfl) ?_);conv=>whnf)))
        refine idx_sel h (fun x1 hx1 h => ?_)
        (focus ((conv=>whnf);repeat ((first|refine zo _ ?_|refine zr _ rfl ?_|refine zn _ ?_|refine zs _ ?_|refine zd _ ?_|refine zw _ (by kernel_rfl) ?_);conv=>whnf)))
        refine idx_sel h (fun x2 hx2 h => ?_)
        (focus ((conv=>whnf);repeat ((first|refine zo _ ?_|refine zr _ rfl ?_|refine zn _ ?_|refine zs _ ?_|refine zd _ ?_|refine zw _ (by kernel_rfl) ?_);conv=>whnf)))
        (focus (refine Or.inl ?_; conv => whnf));refine call_sel (E := fun (x : Bool) => DV.one (D.b x)) h (fun x3 h1 => (l_eqStep_ok N x1 x2 h1)) (fun x3 hx3 h => ?_)
        (focus ((conv=>whnf);repeat ((first|refine zo _ ?_|refine zr _ rfl ?_|refine zn _ ?_|refine zs _ ?_|refine zd _ ?_|refine zw _ (by kernel_rfl) ?_);conv=>whnf)))
        refine br_sel h (fun _ h => ?_) (fun _ h => ?_)
        · (focus ((conv=>whnf);repeat ((first|refine zo _ ?_|refine zr _ rfl ?_|refine zn _ ?_|refine zs _ ?_|refine zd _ ?_|refine zw _ (by kernel_rfl) ?_);conv=>whnf)))
          obtain rfl := some_in h
          have h : some _ = some _ := congrArg some (show _ = _ from hfp1)
          obtain rfl := some_in h
          have h : some _ = some _ := congrArg some (show _ = _ from gt4)
          obtain rfl := some_in h
          (first|rfl|exact Nat.le_of_ble_eq_true rfl|exact map_snoc _ _ _|exact map_put _ _ _ _|exact map_rep rfl|(simp [sub] <;> rfl))
        · (focus ((conv=>whnf);repeat ((first|refine zo _ ?_|refine zr _ rfl ?_|refine zn _ ?_|refine zs _ ?_|refine zd _ ?_|refine zw _ (by kernel_rfl) ?_);conv=>whnf)))
          obtain rfl := some_in h
          refine loop_back hfp1 ?_
          (refine weak_go ?_;(repeat ((conv=>whnf);refine And.intro (by (first|rfl|exact Nat.le_of_ble_eq_true rfl|exact map_snoc _ _ _|exact map_put _ _ _ _|exact map_rep rfl|(simp [sub] <;> rfl))) ?_));(conv=>whnf);exact trivial)
      · (focus ((conv=>whnf);repeat ((first|refine zo _ ?_|refine zr _ rfl ?_|refine zn _ ?_|refine zs _ ?_|refine zd _ ?_|refine zw _ (by kernel_rfl) ?_);conv=>whnf)))
        obtain rfl := some_in h
        have h : some _ = some _ := congrArg some (show _ = _ from hfp1)
        refine cut_at (()) (some_in h) ?_
        (refine weak_go ?_;(repeat ((conv=>whnf);refine And.intro (by (first|rfl|exact Nat.le_of_ble_eq_true rfl|exact map_snoc _ _ _|exact map_put _ _ _ _|exact map_rep rfl|(simp [sub] <;> rfl))) ?_));(conv=>whnf);exact trivial)
    rintro t4 rfl
    have h : _ = some _ := gt4
    (focus ((conv=>whnf);repeat ((first|refine zo _ ?_|refine zr _ rfl ?_|refine zn _ ?_|refine zs _ ?_|refine zd _ ?_|refine zw _ (by kernel_rfl) ?_);conv=>whnf)))
    obtain rfl := some_in h
    (first|rfl|exact Nat.le_of_ble_eq_true rfl|exact map_snoc _ _ _|exact map_put _ _ _ _|exact map_rep rfl|(simp [sub] <;> rfl))

theorem l_eqClue_ok (N : Nat) (v0 : Gx.Clue) (v1 : Gx.Clue) {r : Bool} (h : l_eqClue N v0 v1 = some r) : Pure Tryz.prog 111 [DV.agg (Gx.Clue.enc v0), DV.agg (Gx.Clue.enc v1)] (DV.one (D.b r)) := by
  refine pure_of_walk Tryz.tok Tryz.mixed Tryz.func111 (by kernel_rfl) fun W => ?_
  unfold l_eqClue at h
  (focus ((conv=>whnf);repeat ((first|refine zo _ ?_|refine zr _ rfl ?_|refine zn _ ?_|refine zs _ ?_|refine zd _ ?_|refine zw _ (by kernel_rfl) ?_);conv=>whnf)))
  refine br_sel h (fun _ h => ?_) (fun _ h => ?_)
  · (focus ((conv=>whnf);repeat ((first|refine zo _ ?_|refine zr _ rfl ?_|refine zn _ ?_|refine zs _ ?_|refine zd _ ?_|refine zw _ (by kernel_rfl) ?_);conv=>whnf)))
    obtain rfl := some_in h
    (first|rfl|exact Nat.le_of_ble_eq_true rfl|exact map_snoc _ _ _|exact map_put _ _ _ _|exact map_rep rfl|(simp [sub] <;> rfl))
  · (focus ((conv=>whnf);repeat ((first|refine zo _ ?_|refine zr _ rfl ?_|refine zn _ ?_|refine zs _ ?_|refine zd _ ?_|refine zw _ (by kernel_rfl) ?_);conv=>whnf)))
    (focus (refine Or.inl ?_; conv => whnf));refine call_sel (E := fun (x : Bool) => DV.one (D.b x)) h (fun x1 h1 => (l_eqStepS_ok N v0.mPlay v1.mPlay h1)) (fun x1 hx1 h => ?_)
    (focus ((conv=>whnf);repeat ((first|refine zo _ ?_|refine zr _ rfl ?_|refine zn _ ?_|refine zs _ ?_|refine zd _ ?_|refine zw _ (by kernel_rfl) ?_);conv=>whnf)))
    refine br_sel h (fun _ h => ?_) (fun _ h => ?_)
    · (focus ((conv=>whnf);repeat ((first|refine zo _ ?_|refine zr _ rfl ?_|refine zn _ ?_|refine zs _ ?_|refine zd _ ?_|refine zw _ (by kernel_rfl) ?_);conv=>whnf)))
      obtain rfl := some_in h
      (first|rfl|exact Nat.le_of_ble_eq_true rfl|exact map_snoc _ _ _|exact map_put _ _ _ _|exact map_rep rfl|(simp [sub] <;> rfl))
    · (focus ((conv=>whnf);repeat ((first|refine zo _ ?_|refine zr _ rfl ?_|refine zn _ ?_|refine zs _ ?_|refine zd _ ?_|refine zw _ (by kernel_rfl) ?_);conv=>whnf)))
      obtain rfl := some_in h
      (first|rfl|exact Nat.le_of_ble_eq_true rfl|exact map_snoc _ _ _|exact map_put _ _ _ _|exact map_rep rfl|(simp [sub] <;> rfl))

theorem l_eqClueS_ok (N : Nat) (v0 : List (Gx.Clue)) (v1 : List (Gx.Clue)) {r : Bool} (h : l_eqClueS N v0 v1 = some r) : Pure Tryz.prog 74 [DV.one (D.sl 2 (List.map Gx.Clue.enc v0)), DV.one (D.sl 2 (List.map Gx.Clue.enc v1))] (DV.one (D.b r)) := by
  refine pure_of_walk Tryz.tok Tryz.mixed Tryz.func74 (by kernel_rfl) fun W => ?_
  unfold l_eqClueS at h
  (focus ((conv=>whnf);repeat ((first|refine zo _ ?_|refine zr _ rfl ?_|refine zn _ ?_|refine zs _ ?_|refine zd _ ?_|refine zw _ (by kernel_rfl) ?_);conv=>whnf)))
  refine len_sel (m := (v0.length : Int)) (by (first|rfl|simp [sub])) ?_
  (focus ((conv=>whnf);repeat ((first|refine zo _ ?_|refine zr _ rfl ?_|refine zn _ ?_|refine zs _ ?_|refine zd _ ?_|refine zw _ (by kernel_rfl) ?_);conv=>whnf)))
  refine len_sel (m := (v1.length : Int)) (by (first|rfl|simp [sub])) ?_
  (focus ((conv=>whnf);repeat ((first|refine zo _ ?_|refine zr _ rfl ?_|refine zn _ ?_|refine zs _ ?_|refine zd _ ?_|refine zw _ (by kernel_rfl) ?_);conv=>whnf)))
  refine br_sel h (fun _ h => ?_) (fun _ h => ?_)
  · (focus ((conv=>whnf);repeat ((first|refine zo _ ?_|refine zr _ rfl ?_|refine zn _ ?_|refine zs _ ?_|refine zd _ ?_|refine zw _ (by kernel_rfl) ?_);conv=>whnf)))
    obtain rfl := some_in h
    (first|rfl|exact Nat.le_of_ble_eq_true rfl|exact map_snoc _ _ _|exact map_put _ _ _ _|exact map_rep rfl|(simp [sub] <;> rfl))
  · (focus ((conv=>whnf);repeat ((first|refine zo _ ?_|refine zr _ rfl ?_|refine zn _ ?_|refine zd _ ?_|refine zw _ (by kernel_rfl) ?_);conv=>whnf)))
    obtain ⟨zt4, h, gt4⟩ := cutb_some h
    refine W.r_cut (fun (t4 : Unit) => ⟨[], [], 1000⟩) (fun t => .nx t = zt4) ?_ ?_
    · (focus ((conv=>whnf);repeat ((first|refine zo _ ?_|refine zr _ rfl ?_|refine zn _ ?_|refine zs _ ?_|refine zd _ ?_|refine zw _ (by kernel_rfl) ?_);conv=>whnf)))
      refine loop_lp (fun (p1 : Int) => ⟨[(0, .d (D.sl 2 (List.map Gx.Clue.enc v0))), (1, .d (D.sl 2 (List.map Gx.Clue.enc v1))), (5, .d (D.i p1))], [], 1000⟩) h ?_ ?_
      · (refine weak_go ?_;(repeat ((conv=>whnf);refine And.intro (by (first|rfl|exact Nat.le_of_ble_eq_true rfl|exact map_snoc _ _ _|exact map_put _ _ _ _|exact map_rep rfl|(simp [sub] <;> rfl))) ?_));(conv=>whnf);exact trivial)
      intro np1 p1 yp1 h hfp1
      unfold l_eqClueS_L1 at h
      (focus ((conv=>whnf);repeat ((first|refine zo _ ?_|refine zr _ rfl ?_|refine zn _ ?_|refine zs _ ?_|refine zd _ ?_|refine zw _ (by kernel_rfl) ?_);conv=>whnf)))
      refine len_sel (m := (v0.length : Int)) (by (first|rfl|simp [sub])) ?_
      (focus ((conv=>whnf);repeat ((first|refine zo _ ?_|refine zr _ rfl ?_|refine zn _ ?_|refine zs _ ?_|refine zd _ ?_|refine zw _ (by kernel_rfl) ?_);conv=>whnf)))
      refine br_sel h (fun _ h => ?_) (fun _ h => ?_)
      · (focus ((conv=>whnf);repeat ((first|refine zo _ ?_|refine zr _ rfl ?_|refine zn _ ?_|refine zs _ ?_|refine zd _ ?_|refine zw _ (by kernel_rfl) ?_);conv=>whnf)))
        refine idx_sel h (fun x1 hx1 h => ?_)
        (focus ((conv=>whnf);repeat ((first|refine zo _ ?_|refine zr _ rfl ?_|refine zn _ ?_|refine zs _ ?_|refine zd _ ?_|refine zw _ (by kernel_rfl) ?_);conv=>whnf)))
        refine idx_sel h (fun x2 hx2 h => ?_)
        (focus ((conv=>whnf);repeat ((first|refine zo _ ?_|refine zr _ rfl ?_|refine zn _ ?_|refine zs _ ?_|refine zd _ ?_|refine zw _ (by kernel_rfl) ?_);conv=>whnf)))
        (focus (refine Or.inl ?_; conv => whnf));refine call_sel (E := fun (x : Bool) => DV.one (D.b x)) h (fun x3 h1 => (l_eqClue_ok N x1 x2 h1)) (fun x3 hx3 h => ?_)
        (focus ((conv=>whnf);repeat ((first|refine zo _ ?_|refine zr _ rfl ?_|refine zn _ ?_|refine zs _ ?_|refine zd _ ?_|refine zw _ (by kernel_rfl) ?_);conv=>whnf)))
        refine br_sel h (fun _ h => ?_) (fun _ h => ?_)
        · (focus ((conv=>whnf);repeat ((first|refine zo _ ?_|refine zr _ rfl ?_|refine zn _ ?_|refine zs _ ?_|refine zd _ ?_|refine zw _ (by kernel_rfl) ?_);conv=>whnf)))
          obtain rfl := some_in h
          have h : some _ = some _ := congrArg some (show _ = _ from hfp1)
          obtain rfl := some_in h
          have h : some _ = some _ := congrArg some (show _ = _ from gt4)
          obtain rfl := some_in h
          (first|rfl|exact Nat.le_of_ble_eq_true rfl|exact map_snoc _ _ _|exact map_put _ _ _ _|exact map_rep rfl|(simp [sub] <;> rfl))
        · (focus ((conv=>whnf);repeat ((first|refine zo _ ?_|refine zr _ rfl ?_|refine zn _ ?_|refine zs _ ?_|refine zd _ ?_|refine zw _ (by kernel_rfl) ?_);conv=>whnf)))
          obtain rfl := some_in h
          refine loop_back hfp1 ?_
          (refine weak_go ?_;(repeat ((conv=>whnf);refine And.intro (by (first|rfl|exact Nat.le_of_ble_eq_true rfl|exact map_snoc _ _ _|exact map_put _ _ _ _|exact map_rep rfl|(simp [sub] <;> rfl))) ?_));(conv=>whnf);exact trivial)
      · (focus ((conv=>whnf);repeat ((first|refine zo _ ?_|refine zr _ rfl ?_|refine zn _ ?_|refine zs _ ?_|refine zd _ ?_|refine zw _ (by kernel_rfl) ?_);conv=>whnf)))
        obtain rfl := some_in h
        have h : some _ = some _ := congrArg some (show _ = _ from hfp1)
        refine cut_at (()) (some_in h) ?_
        (refine weak_go ?_;(repeat ((conv=>whnf);refine And.intro (by (first|rfl|exact Nat.le_of_ble_eq_true rfl|exact map_snoc _ _ _|exact map_put _ _ _ _|exact map_rep rfl|(simp [sub] <;> rfl))) ?_));(conv=>whnf);exact trivial)
    rintro t4 rfl
    have h : _ = some _ := gt4
    (focus ((conv=>whnf);repeat ((first|refine zo _ ?_|refine zr _ rfl ?_|refine zn _ ?_|refine zs _ ?_|refine zd _ ?_|refine zw _ (by kernel_rfl) ?_);conv=>whnf)))
    obtain rfl := some_in h
    (first|rfl|exact Nat.le_of_ble_eq_true rfl|exact map_snoc _ _ _|exact map_put _ _ _ _|exact map_rep rfl|(simp [sub] <;> rfl))

theorem l_eqDraft_ok (N : Nat) (v0 : Gx.Draft) (v1 : Gx.Draft) {r : Bool} (h : l_eqDraft N v0 v1 = some r) : Pure Tryz.prog 37 [DV.agg (Gx.Draft.enc v0), DV.agg (Gx.Draft.enc v1)] (DV.one (D.b r)) := by
  refine pure_of_walk Tryz.tok Tryz.mixed Tryz.func37 (by kernel_rfl) fun W => ?_
  unfold l_eqDraft at h
  (focus ((conv=>whnf);repeat ((first|refine zo _ ?_|refine zr _ rfl ?_|refine zn _ ?_|refine zs _ ?_|refine zd _ ?_|refine zw _ (by kernel_rfl) ?_);conv=>whnf)))
  (focus (refine Or.inl ?_; conv => whnf));refine call_sel (E := fun (x : Bool) => DV.one (D.b x)) h (fun x1 h1 => (l_eqGrid_ok N v0.mGrid v1.mGrid h1)) (fun x1 hx1 h => ?_)
  (focus ((conv=>whnf);repeat ((first|refine zo _ ?_|refine zr _ rfl ?_|refine zn _ ?_|refine zs _ ?_|refine zd _ ?_|refine zw _ (by kernel_rfl) ?_);conv=>whnf)))
  refine br_sel h (fun _ h => ?_) (fun _ h => ?_)
  · (focus ((conv=>whnf);repeat ((first|refine zo _ ?_|refine zr _ rfl ?_|refine zn _ ?_|refine zs _ ?_|refine zd _ ?_|refine zw _ (by kernel_rfl) ?_);conv=>whnf)))
    obtain rfl := some_in h
    (first|rfl|exact Nat.le_of_ble_eq_true rfl|exact map_snoc _ _ _|exact map_put _ _ _ _|exact map_rep rfl|(simp [sub] <;> rfl))
  · (focus ((conv=>whnf);repeat ((first|refine zo _ ?_|refine zr _ rfl ?_|refine zn _ ?_|refine zs _ ?_|refine zd _ ?_|refine zw _ (by kernel_rfl) ?_);conv=>whnf)))
    refine br_sel h (fun _ h => ?_) (fun _ h => ?_)
    · (focus ((conv=>whnf);repeat ((first|refine zo _ ?_|refine zr _ rfl ?_|refine zn _ ?_|refine zs _ ?_|refine zd _ ?_|refine zw _ (by kernel_rfl) ?_);conv=>whnf)))
      obtain rfl := some_in h
      (first|rfl|exact Nat.le_of_ble_eq_true rfl|exact map_snoc _ _ _|exact map_put _ _ _ _|exact map_rep rfl|(simp [sub] <;> rfl))
    · (focus ((conv=>whnf);repeat ((first|refine zo _ ?_|refine zr _ rfl ?_|refine zn _ ?_|refine zs _ ?_|refine zd _ ?_|refine zw _ (by kernel_rfl) ?_);conv=>whnf)))
      (focus (refine Or.inl ?_; conv => whnf));refine call_sel (E := fun (x : Bool) => DV.one (D.b x)) h (fun x2 h1 => (l_eqClueS_ok N v0.mClues v1.mClues h1)) (fun x2 hx2 h => ?_)
      (focus ((conv=>whnf);repeat ((first|refine zo _ ?_|refine zr _ rfl ?_|refine zn _ ?_|refine zs _ ?_|refine zd _ ?_|refine zw _ (by kernel_rfl) ?_);conv=>whnf)))
      refine br_sel h (fun _ h => ?_) (fun _ h => ?_)
      · (focus ((conv=>whnf);repeat ((first|refine zo _ ?_|refine zr _ rfl ?_|refine zn _ ?_|refine zs _ ?_|refine zd _ ?_|refine zw _ (by kernel_rfl) ?_);conv=>whnf)))
        obtain rfl := some_in h
        (first|rfl|exact Nat.le_of_ble_eq_true rfl|exact map_snoc _ _ _|exact map_put _ _ _ _|exact map_rep rfl|(simp [sub] <;> rfl))
      · (focus ((conv=>whnf);repeat ((first|refine zo _ ?_|refine zr _ rfl ?_|refine zn _ ?_|refine zs _ ?_|refine zd _ ?_|refine zw _ (by kernel_rfl) ?_);conv=>whnf)))
        refine br_sel h (fun _ h => ?_) (fun _ h => ?_)
        · (focus ((conv=>whnf);repeat ((first|refine zo _ ?_|refine zr _ rfl ?_|refine zn _ ?_|refine zs _ ?_|refine zd _ ?_|refine zw _ (by kernel_rfl) ?_);conv=>whnf)))
          obtain rfl := some_in h
          (first|rfl|exact Nat.le_of_ble_eq_true rfl|exact map_snoc _ _ _|exact map_put _ _ _ _|exact map_rep rfl|(simp [sub] <;> rfl))
        · (focus ((conv=>whnf);repeat ((first|refine zo _ ?_|refine zr _ rfl ?_|refine zn _ ?_|refine zs _ ?_|refine zd _ ?_|refine zw _ (by kernel_rfl) ?_);conv=>whnf)))
          obtain rfl := some_in h
          (first|rfl|exact Nat.le_of_ble_eq_true rfl|exact map_snoc _ _ _|exact map_put _ _ _ _|exact map_rep rfl|(simp [sub] <;> rfl))

theorem l_eqIntS_ok (N : Nat) (v0 : List (Int)) (v1 : List (Int)) {r : Bool} (h : l_eqIntS N v0 v1 = some r) : Pure Tryz.prog 141 [DV.one (D.sl 1 (List.map Gx.encI v0)), DV.one (D.sl 1 (List.map Gx.encI v1))] (DV.one (D.b r)) := by
  refine pure_of_walk Tryz.tok Tryz.mixed Tryz.func141 (by kernel_rfl) fun W => ?_
  unfold l_eqIntS at h
  (focus ((conv=>whnf);repeat ((first|refine zo _ ?_|refine zr _ rfl ?_|refine zn _ ?_|refine zs _ ?_|refine zd _ ?_|refine zw _ (by kernel_rfl) ?_);conv=>whnf)))
  refine len_sel (m := (v0.length : Int)) (by (first|rfl|simp [sub])) ?_
  (focus ((conv=>whnf);repeat ((first|refine zo _ ?_|refine zr _ rfl ?_|refine zn _ ?_|refine zs _ ?_|refine zd _ ?_|refine zw _ (by kernel_rfl) ?_);conv=>whnf)))
  refine len_sel (m := (v1.length : Int)) (by (first|rfl|simp [sub])) ?_
  (focus ((conv=>whnf);repeat ((first|refine zo _ ?_|refine zr _ rfl ?_|refine zn _ ?_|refine zs _ ?_|refine zd _ ?_|refine zw _ (by kernel_rfl) ?_);conv=>whnf)))
  refine br_sel h (fun _ h => ?_) (fun _ h => ?_)
  · (focus ((conv=>whnf);repeat ((first|refine zo _ ?_|refine zr _ rfl ?_|refine zn _ ?_|refine zs _ ?_|refine zd _ ?_|refine zw _ (by kernel_rfl) ?_);conv=>whnf)))
    obtain rfl := some_in h
    (first|rfl|exact Nat.le_of_ble_eq_true rfl|exact map_snoc _ _ _|exact map_put _ _ _ _|exact map_rep rfl|(simp [sub] <;> rfl))
  · (focus ((conv=>whnf);repeat ((first|refine zo _ ?_|refine zr _ rfl ?_|refine zn _ ?_|refine zd _ ?_|refine zw _ (by kernel_rfl) ?_);conv=>whnf)))
    obtain ⟨zt3, h, gt3⟩ := cutb_some h
    refine W.r_cut (fun (t3 : Unit) => ⟨[], [], 1000⟩) (fun t => .nx t = zt3) ?_ ?_
    · (focus ((conv=>whnf);repeat ((first|refine zo _ ?_|refine zr _ rfl ?_|refine zn _ ?_|refine zs _ ?_|refine zd _ ?_|refine zw _ (by kernel_rfl) ?_);conv=>whnf)))
      refine loop_lp (fun (p1 : Int) => ⟨[(0, .d (D.sl 1 (List.map Gx.encI v0))), (1, .d (D.sl 1 (List.map Gx.encI v1))), (5, .d (D.i p1))], [], 1000⟩) h ?_ ?_
      · (refine weak_go ?_;(repeat ((conv=>whnf);refine And.intro (by (first|rfl|exact Nat.le_of_ble_eq_true rfl|exact map_snoc _ _ _|exact map_put _ _ _ _|exact map_rep rfl|(simp [sub] <;> rfl))) ?_));(conv=>whnf);exact trivial)
      intro np1 p1 yp1 h hfp1
      unfold l_eqIntS_L1 at h
      (focus ((conv=>whnf);repeat ((first|refine zo _ ?_|refine zr _ rfl ?_|refine zn _ ?_|refine zs _ ?_|refine zd _ ?_|refine zw _ (by kernel_rfl) ?_);conv=>whnf)))
      refine len_sel (m := (v0.length : Int)) (by (first|rfl|simp [sub])) ?_
      (focus ((conv=>whnf);repeat ((first|refine zo _ ?_|refine zr _ rfl ?_|refine zn _ ?_|refine zs _ ?_|refine zd _ ?_|refine zw _ (by kernel_rfl) ?_);conv=>whnf)))
      refine br_sel h (fun _ h => ?_) (fun _ h => ?_)
      · (focus ((conv=>whnf);repeat ((first|refine zo _ ?_|refine zr _ rfl ?_|refine zn _ ?_|refine zs _ ?_|refine zd _ ?_|refine zw _ (by kernel_rfl) ?_);conv=>whnf)))
        refine idx_sel h (fun x1 hx1 h => ?_)
        (focus ((conv=>whnf);repeat ((first|refine zo _ ?_|refine zr _ rfl ?_|refine zn _ ?_|refine zs _ ?_|refine zd _ ?_|refine zw _ (by kernel_rfl) ?_);conv=>whnf)))
        refine idx_sel h (fun x2 hx2 h => ?_)
        (focus ((conv=>whnf);repeat ((first|refine zo _ ?_|refine zr _ rfl ?_|refine zn _ ?_|refine zs _ ?_|refine zd _ ?_|refine zw _ (by kernel_rfl) ?_);conv=>whnf)))
        refine br_sel h (fun _ h => ?_) (fun _ h => ?_)
        · (focus ((conv=>whnf);repeat ((first|refine zo _ ?_|refine zr _ rfl ?_|refine zn _ ?_|refine zs _ ?_|refine zd _ ?_|refine zw _ (by kernel_rfl) ?_);conv=>whnf)))
          obtain rfl := some_in h
          have h : some _ = some _ := congrArg some (show _ = _ from hfp1)
          obtain rfl := some_in h
          have h : some _ = some _ := congrArg some (show _ = _ from gt3)
          obtain rfl := some_in h
          (first|rfl|exact Nat.le_of_ble_eq_true rfl|exact map_snoc _ _ _|exact map_put _ _ _ _|exact map_rep rfl|(simp [sub] <;> rfl))
        · (focus ((conv=>whnf);repeat ((first|refine zo _ ?_|refine zr _ rfl ?_|refine zn _ ?_|refine zs _ ?_|refine zd _ ?_|refine zw _ (by kernel_rfl) ?_);conv=>whnf)))
          obtain rfl := some_in h
          refine loop_back hfp1 ?_
          (refine weak_go ?_;(repeat ((conv=>whnf);refine And.intro (by (first|rfl|exact Nat.le_of_ble_eq_true rfl|exact map_snoc _ _ _|exact map_put _ _ _ _|exact map_rep rfl|(simp [sub] <;> rfl))) ?_));(conv=>whnf);exact trivial)
      · (focus ((conv=>whnf);repeat ((first|refine zo _ ?_|refine zr _ rfl ?_|refine zn _ ?_|refine zs _ ?_|refine zd _ ?_|refine zw _ (by kernel_rfl) ?_);conv=>whnf)))
        obtain rfl := some_in h
        have h : some _ = some _ := congrArg some (show _ = _ from hfp1)
        refine cut_at (()) (some_in h) ?_
        (refine weak_go ?_;(repeat ((conv=>whnf);refine And.intro (by (first|rfl|exact Nat.le_of_ble_eq_true rfl|exact map_snoc _ _ _|exact map_put _ _ _ _|exact map_rep rfl|(simp [sub] <;> rfl))) ?_));(conv=>whnf);exact trivial)
    rintro t3 rfl
    have h : _ = some _ := gt3
    (focus ((conv=>whnf);repeat ((first|refine zo _ ?_|refine zr _ rfl ?_|refine zn _ ?_|refine zs _ ?_|refine zd _ ?_|refine zw _ (by kernel_rfl) ?_);conv=>whnf)))
    obtain rfl := some_in h
    (first|rfl|exact Nat.le_of_ble_eq_true rfl|exact map_snoc _ _ _|exact map_put _ _ _ _|exact map_rep rfl|(simp [sub] <;> rfl))

theorem l_eqPuzzle_ok (N : Nat) (v0 : Gx.Puzzle) (v1 : Gx.Puzzle) {r : Bool} (h : l_eqPuzzle N v0 v1 = some r) : Pure Tryz.prog 112 [DV.agg (Gx.Puzzle.enc v0), DV.agg (Gx.Puzzle.enc v1)] (DV.one (D.b r)) := by
  refine pure_of_walk Tryz.tok Tryz.mixed Tryz.func112 (by kernel_rfl) fun W => ?_
  unfold l_eqPuzzle at h
  (focus ((conv=>whnf);repeat ((first|refine zo _ ?_|refine zr _ rfl ?_|refine zn _ ?_|refine zs _ ?_|refine zd _ ?_|refine zw _ (by kernel_rfl) ?_);conv=>whnf)))
  (focus (refine Or.inl ?_; conv => whnf));refine call_sel (E := fun (x : Bool) => DV.one (D.b x)) h (fun x1 h1 => (l_eqGrid_ok N v0.mGrid v1.mGrid h1)) (fun x1 hx1 h => ?_)
  (focus ((conv=>whnf);repeat ((first|refine zo _ ?_|refine zr _ rfl ?_|refine zn _ ?_|refine zs _ ?_|refine zd _ ?_|refine zw _ (by kernel_rfl) ?_);conv=>whnf)))
  refine br_sel h (fun _ h => ?_) (fun _ h => ?_)
  · (focus ((conv=>whnf);repeat ((first|refine zo _ ?_|refine zr _ rfl ?_|refine zn _ ?_|refine zs _ ?_|refine zd _ ?_|refine zw _ (by kernel_rfl) ?_);conv=>whnf)))
    obtain rfl := some_in h
    (first|rfl|exact Nat.le_of_ble_eq_true rfl|exact map_snoc _ _ _|exact map_put _ _ _ _|exact map_rep rfl|(simp [sub] <;> rfl))
  · (focus ((conv=>whnf);repeat ((first|refine zo _ ?_|refine zr _ rfl ?_|refine zn _ ?_|refine zs _ ?_|refine zd _ ?_|refine zw _ (by kernel_rfl) ?_);conv=>whnf)))
    (focus (refine Or.inl ?_; conv => whnf));refine call_sel (E := fun (x : Bool) => DV.one (D.b x)) h (fun x2 h1 => (l_eqClueS_ok N v0.mClues v1.mClues h1)) (fun x2 hx2 h => ?_)
    (focus ((conv=>whnf);repeat ((first|refine zo _ ?_|refine zr _ rfl ?_|refine zn _ ?_|refine zs _ ?_|refine zd _ ?_|refine zw _ (by kernel_rfl) ?_);conv=>whnf)))
    refine br_sel h (fun _ h => ?_) (fun _ h => ?_)
    · (focus ((conv=>whnf);repeat ((first|refine zo _ ?_|refine zr _ rfl ?_|refine zn _ ?_|refine zs _ ?_|refine zd _ ?_|refine zw _ (by kernel_rfl) ?_);conv=>whnf)))
      obtain rfl := some_in h
      (first|rfl|exact Nat.le_of_ble_eq_true rfl|exact map_snoc _ _ _|exact map_put _ _ _ _|exact map_rep rfl|(simp [sub] <;> rfl))
    · (focus ((conv=>whnf);repeat ((first|refine zo _ ?_|refine zr _ rfl ?_|refine zn _ ?_|refine zs _ ?_|refine zd _ ?_|refine zw _ (by kernel_rfl) ?_);conv=>whnf)))
      (focus (refine Or.inl ?_; conv => whnf));refine call_sel (E := fun (x : Bool) => DV.one (D.b x)) h (fun x3 h1 => (l_eqIntS_ok N v0.mSeals v1.mSeals h1)) (fun x3 hx3 h => ?_)
      (focus ((conv=>whnf);repeat ((first|refine zo _ ?_|refine zr _ rfl ?_|refine zn _ ?_|refine zs _ ?_|refine zd _ ?_|refine zw _ (by kernel_rfl) ?_);conv=>whnf)))
      refine br_sel h (fun _ h => ?_) (fun _ h => ?_)
      · (focus ((conv=>whnf);repeat ((first|refine zo _ ?_|refine zr _ rfl ?_|refine zn _ ?_|refine zs _ ?_|refine zd _ ?_|refine zw _ (by kernel_rfl) ?_);conv=>whnf)))
        obtain rfl := some_in h
        (first|rfl|exact Nat.le_of_ble_eq_true rfl|exact map_snoc _ _ _|exact map_put _ _ _ _|exact map_rep rfl|(simp [sub] <;> rfl))
      · (focus ((conv=>whnf);repeat ((first|refine zo _ ?_|refine zr _ rfl ?_|refine zn _ ?_|refine zs _ ?_|refine zd _ ?_|refine zw _ (by kernel_rfl) ?_);conv=>whnf)))
        refine br_sel h (fun _ h => ?_) (fun _ h => ?_)
        · (focus ((conv=>whnf);repeat ((first|refine zo _ ?_|refine zr _ rfl ?_|refine zn _ ?_|refine zs _ ?_|refine zd _ ?_|refine zw _ (by kernel_rfl) ?_);conv=>whnf)))
          obtain rfl := some_in h
          (first|rfl|exact Nat.le_of_ble_eq_true rfl|exact map_snoc _ _ _|exact map_put _ _ _ _|exact map_rep rfl|(simp [sub] <;> rfl))
        · (focus ((conv=>whnf);repeat ((first|refine zo _ ?_|refine zr _ rfl ?_|refine zn _ ?_|refine zs _ ?_|refine zd _ ?_|refine zw _ (by kernel_rfl) ?_);conv=>whnf)))
          obtain rfl := some_in h
          (first|rfl|exact Nat.le_of_ble_eq_true rfl|exact map_snoc _ _ _|exact map_put _ _ _ _|exact map_rep rfl|(simp [sub] <;> rfl))

theorem l_eqIssue_ok (N : Nat) (v0 : Gx.Issue) (v1 : Gx.Issue) {r : Bool} (h : l_eqIssue N v0 v1 = some r) : Pure Tryz.prog 75 [DV.agg (Gx.Issue.enc v0), DV.agg (Gx.Issue.enc v1)] (DV.one (D.b r)) := by
  refine pure_of_walk Tryz.tok Tryz.mixed Tryz.func75 (by kernel_rfl) fun W => ?_
  unfold l_eqIssue at h
  (focus ((conv=>whnf);repeat ((first|refine zo _ ?_|refine zr _ rfl ?_|refine zn _ ?_|refine zs _ ?_|refine zd _ ?_|refine zw _ (by kernel_rfl) ?_);conv=>whnf)))
  refine br_sel h (fun _ h => ?_) (fun _ h => ?_)
  · (focus ((conv=>whnf);repeat ((first|refine zo _ ?_|refine zr _ rfl ?_|refine zn _ ?_|refine zs _ ?_|refine zd _ ?_|refine zw _ (by kernel_rfl) ?_);conv=>whnf)))
    obtain rfl := some_in h
    (first|rfl|exact Nat.le_of_ble_eq_true rfl|exact map_snoc _ _ _|exact map_put _ _ _ _|exact map_rep rfl|(simp [sub] <;> rfl))
  · (focus ((conv=>whnf);repeat ((first|refine zo _ ?_|refine zr _ rfl ?_|refine zn _ ?_|refine zs _ ?_|refine zd _ ?_|refine zw _ (by kernel_rfl) ?_);conv=>whnf)))
    (focus (refine Or.inl ?_; conv => whnf));refine call_sel (E := fun (x : Bool) => DV.one (D.b x)) h (fun x1 h1 => (l_eqPuzzle_ok N v0.mPuzzle v1.mPuzzle h1)) (fun x1 hx1 h => ?_)
    (focus ((conv=>whnf);repeat ((first|refine zo _ ?_|refine zr _ rfl ?_|refine zn _ ?_|refine zs _ ?_|refine zd _ ?_|refine zw _ (by kernel_rfl) ?_);conv=>whnf)))
    refine br_sel h (fun _ h => ?_) (fun _ h => ?_)
    · (focus ((conv=>whnf);repeat ((first|refine zo _ ?_|refine zr _ rfl ?_|refine zn _ ?_|refine zs _ ?_|refine zd _ ?_|refine zw _ (by kernel_rfl) ?_);conv=>whnf)))
      obtain rfl := some_in h
      (first|rfl|exact Nat.le_of_ble_eq_true rfl|exact map_snoc _ _ _|exact map_put _ _ _ _|exact map_rep rfl|(simp [sub] <;> rfl))
    · (focus ((conv=>whnf);repeat ((first|refine zo _ ?_|refine zr _ rfl ?_|refine zn _ ?_|refine zs _ ?_|refine zd _ ?_|refine zw _ (by kernel_rfl) ?_);conv=>whnf)))
      refine br_sel h (fun _ h => ?_) (fun _ h => ?_)
      · (focus ((conv=>whnf);repeat ((first|refine zo _ ?_|refine zr _ rfl ?_|refine zn _ ?_|refine zs _ ?_|refine zd _ ?_|refine zw _ (by kernel_rfl) ?_);conv=>whnf)))
        obtain rfl := some_in h
        (first|rfl|exact Nat.le_of_ble_eq_true rfl|exact map_snoc _ _ _|exact map_put _ _ _ _|exact map_rep rfl|(simp [sub] <;> rfl))
      · (focus ((conv=>whnf);repeat ((first|refine zo _ ?_|refine zr _ rfl ?_|refine zn _ ?_|refine zs _ ?_|refine zd _ ?_|refine zw _ (by kernel_rfl) ?_);conv=>whnf)))
        refine br_sel h (fun _ h => ?_) (fun _ h => ?_)
        · (focus ((conv=>whnf);repeat ((first|refine zo _ ?_|refine zr _ rfl ?_|refine zn _ ?_|refine zs _ ?_|refine zd _ ?_|refine zw _ (by kernel_rfl) ?_);conv=>whnf)))
          obtain rfl := some_in h
          (first|rfl|exact Nat.le_of_ble_eq_true rfl|exact map_snoc _ _ _|exact map_put _ _ _ _|exact map_rep rfl|(simp [sub] <;> rfl))
        · (focus ((conv=>whnf);repeat ((first|refine zo _ ?_|refine zr _ rfl ?_|refine zn _ ?_|refine zs _ ?_|refine zd _ ?_|refine zw _ (by kernel_rfl) ?_);conv=>whnf)))
          refine br_sel h (fun _ h => ?_) (fun _ h => ?_)
          · (focus ((conv=>whnf);repeat ((first|refine zo _ ?_|refine zr _ rfl ?_|refine zn _ ?_|refine zs _ ?_|refine zd _ ?_|refine zw _ (by kernel_rfl) ?_);conv=>whnf)))
            obtain rfl := some_in h
            (first|rfl|exact Nat.le_of_ble_eq_true rfl|exact map_snoc _ _ _|exact map_put _ _ _ _|exact map_rep rfl|(simp [sub] <;> rfl))
          · (focus ((conv=>whnf);repeat ((first|refine zo _ ?_|refine zr _ rfl ?_|refine zn _ ?_|refine zs _ ?_|refine zd _ ?_|refine zw _ (by kernel_rfl) ?_);conv=>whnf)))
            obtain rfl := some_in h
            (first|rfl|exact Nat.le_of_ble_eq_true rfl|exact map_snoc _ _ _|exact map_put _ _ _ _|exact map_rep rfl|(simp [sub] <;> rfl))

theorem l_eqIssueS_ok (N : Nat) (v0 : List (Gx.Issue)) (v1 : List (Gx.Issue)) {r : Bool} (h : l_eqIssueS N v0 v1 = some r) : Pure Tryz.prog 38 [DV.one (D.sl 10 (List.map Gx.Issue.enc v0)), DV.one (D.sl 10 (List.map Gx.Issue.enc v1))] (DV.one (D.b r)) := by
  refine pure_of_walk Tryz.tok Tryz.mixed Tryz.func38 (by kernel_rfl) fun W => ?_
  unfold l_eqIssueS at h
  (focus ((conv=>whnf);repeat ((first|refine zo _ ?_|refine zr _ rfl ?_|refine zn _ ?_|refine zs _ ?_|refine zd _ ?_|refine zw _ (by kernel_rfl) ?_);conv=>whnf)))
  refine len_sel (m := (v0.length : Int)) (by (first|rfl|simp [sub])) ?_
  (focus ((conv=>whnf);repeat ((first|refine zo _ ?_|refine zr _ rfl ?_|refine zn _ ?_|refine zs _ ?_|refine zd _ ?_|refine zw _ (by kernel_rfl) ?_);conv=>whnf)))
  refine len_sel (m := (v1.length : Int)) (by (first|rfl|simp [sub])) ?_
  (focus ((conv=>whnf);repeat ((first|refine zo _ ?_|refine zr _ rfl ?_|refine zn _ ?_|refine zs _ ?_|refine zd _ ?_|refine zw _ (by kernel_rfl) ?_);conv=>whnf)))
  refine br_sel h (fun _ h => ?_) (fun _ h => ?_)
  · (focus ((conv=>whnf);repeat ((first|refine zo _ ?_|refine zr _ rfl ?_|refine zn _ ?_|refine zs _ ?_|refine zd _ ?_|refine zw _ (by kernel_rfl) ?_);conv=>whnf)))
    obtain rfl := some_in h
    (first|rfl|exact Nat.le_of_ble_eq_true rfl|exact map_snoc _ _ _|exact map_put _ _ _ _|exact map_rep rfl|(simp [sub] <;> rfl))
  · (focus ((conv=>whnf);repeat ((first|refine zo _ ?_|refine zr _ rfl ?_|refine zn _ ?_|refine zd _ ?_|refine zw _ (by kernel_rfl) ?_);conv=>whnf)))
    obtain ⟨zt4, h, gt4⟩ := cutb_some h
    refine W.r_cut (fun (t4 : Unit) => ⟨[], [], 1000⟩) (fun t => .nx t = zt4) ?_ ?_
    · (focus ((conv=>whnf);repeat ((first|refine zo _ ?_|refine zr _ rfl ?_|refine zn _ ?_|refine zs _ ?_|refine zd _ ?_|refine zw _ (by kernel_rfl) ?_);conv=>whnf)))
      refine loop_lp (fun (p1 : Int) => ⟨[(0, .d (D.sl 10 (List.map Gx.Issue.enc v0))), (1, .d (D.sl 10 (List.map Gx.Issue.enc v1))), (5, .d (D.i p1))], [], 1000⟩) h ?_ ?_
      · (refine weak_go ?_;(repeat ((conv=>whnf);refine And.intro (by (first|rfl|exact Nat.le_of_ble_eq_true rfl|exact map_snoc _ _ _|exact map_put _ _ _ _|exact map_rep rfl|(simp [sub] <;> rfl))) ?_));(conv=>whnf);exact trivial)
      intro np1 p1 yp1 h hfp1
      unfold l_eqIssueS_L1 at h
      (focus ((conv=>whnf);repeat ((first|refine zo _ ?_|refine zr _ rfl ?_|refine zn _ ?_|refine zs _ ?_|refine zd _ ?_|refine zw _ (by kernel_rfl) ?_);conv=>whnf)))
      refine len_sel (m := (v0.length : Int)) (by (first|rfl|simp [sub])) ?_
      (focus ((conv=>whnf);repeat ((first|refine zo _ ?_|refine zr _ rfl ?_|refine zn _ ?_|refine zs _ ?_|refine zd _ ?_|refine zw _ (by kernel_rfl) ?_);conv=>whnf)))
      refine br_sel h (fun _ h => ?_) (fun _ h => ?_)
      · (focus ((conv=>whnf);repeat ((first|refine zo _ ?_|refine zr _ rfl ?_|refine zn _ ?_|refine zs _ ?_|refine zd _ ?_|refine zw _ (by kernel_rfl) ?_);conv=>whnf)))
        refine idx_sel h (fun x1 hx1 h => ?_)
        (focus ((conv=>whnf);repeat ((first|refine zo _ ?_|refine zr _ rfl ?_|refine zn _ ?_|refine zs _ ?_|refine zd _ ?_|refine zw _ (by kernel_rfl) ?_);conv=>whnf)))
        refine idx_sel h (fun x2 hx2 h => ?_)
        (focus ((conv=>whnf);repeat ((first|refine zo _ ?_|refine zr _ rfl ?_|refine zn _ ?_|refine zs _ ?_|refine zd _ ?_|refine zw _ (by kernel_rfl) ?_);conv=>whnf)))
        (focus (refine Or.inl ?_; conv => whnf));refine call_sel (E := fun (x : Bool) => DV.one (D.b x)) h (fun x3 h1 => (l_eqIssue_ok N x1 x2 h1)) (fun x3 hx3 h => ?_)
        (focus ((conv=>whnf);repeat ((first|refine zo _ ?_|refine zr _ rfl ?_|refine zn _ ?_|refine zs _ ?_|refine zd _ ?_|refine zw _ (by kernel_rfl) ?_);conv=>whnf)))
        refine br_sel h (fun _ h => ?_) (fun _ h => ?_)
        · (focus ((conv=>whnf);repeat ((first|refine zo _ ?_|refine zr _ rfl ?_|refine zn _ ?_|refine zs _ ?_|refine zd _ ?_|refine zw _ (by kernel_rfl) ?_);conv=>whnf)))
          obtain rfl := some_in h
          have h : some _ = some _ := congrArg some (show _ = _ from hfp1)
          obtain rfl := some_in h
          have h : some _ = some _ := congrArg some (show _ = _ from gt4)
          obtain rfl := some_in h
          (first|rfl|exact Nat.le_of_ble_eq_true rfl|exact map_snoc _ _ _|exact map_put _ _ _ _|exact map_rep rfl|(simp [sub] <;> rfl))
        · (focus ((conv=>whnf);repeat ((first|refine zo _ ?_|refine zr _ rfl ?_|refine zn _ ?_|refine zs _ ?_|refine zd _ ?_|refine zw _ (by kernel_rfl) ?_);conv=>whnf)))
          obtain rfl := some_in h
          refine loop_back hfp1 ?_
          (refine weak_go ?_;(repeat ((conv=>whnf);refine And.intro (by (first|rfl|exact Nat.le_of_ble_eq_true rfl|exact map_snoc _ _ _|exact map_put _ _ _ _|exact map_rep rfl|(simp [sub] <;> rfl))) ?_));(conv=>whnf);exact trivial)
      · (focus ((conv=>whnf);repeat ((first|refine zo _ ?_|refine zr _ rfl ?_|refine zn _ ?_|refine zs _ ?_|refine zd _ ?_|refine zw _ (by kernel_rfl) ?_);conv=>whnf)))
        obtain rfl := some_in h
        have h : some _ = some _ := congrArg some (show _ = _ from hfp1)
        refine cut_at (()) (some_in h) ?_
        (refine weak_go ?_;(repeat ((conv=>whnf);refine And.intro (by (first|rfl|exact Nat.le_of_ble_eq_true rfl|exact map_snoc _ _ _|exact map_put _ _ _ _|exact map_rep rfl|(simp [sub] <;> rfl))) ?_));(conv=>whnf);exact trivial)
    rintro t4 rfl
    have h : _ = some _ := gt4
    (focus ((conv=>whnf);repeat ((first|refine zo _ ?_|refine zr _ rfl ?_|refine zn _ ?_|refine zs _ ?_|refine zd _ ?_|refine zw _ (by kernel_rfl) ?_);conv=>whnf)))
    obtain rfl := some_in h
    (first|rfl|exact Nat.le_of_ble_eq_true rfl|exact map_snoc _ _ _|exact map_put _ _ _ _|exact map_rep rfl|(simp [sub] <;> rfl))

theorem l_eqUsed_ok (N : Nat) (v0 : Gx.Used) (v1 : Gx.Used) {r : Bool} (h : l_eqUsed N v0 v1 = some r) : Pure Tryz.prog 76 [DV.agg (Gx.Used.enc v0), DV.agg (Gx.Used.enc v1)] (DV.one (D.b r)) := by
  refine pure_of_walk Tryz.tok Tryz.mixed Tryz.func76 (by kernel_rfl) fun W => ?_
  unfold l_eqUsed at h
  (focus ((conv=>whnf);repeat ((first|refine zo _ ?_|refine zr _ rfl ?_|refine zn _ ?_|refine zs _ ?_|refine zd _ ?_|refine zw _ (by kernel_rfl) ?_);conv=>whnf)))
  refine br_sel h (fun _ h => ?_) (fun _ h => ?_)
  · (focus ((conv=>whnf);repeat ((first|refine zo _ ?_|refine zr _ rfl ?_|refine zn _ ?_|refine zs _ ?_|refine zd _ ?_|refine zw _ (by kernel_rfl) ?_);conv=>whnf)))
    obtain rfl := some_in h
    (first|rfl|exact Nat.le_of_ble_eq_true rfl|exact map_snoc _ _ _|exact map_put _ _ _ _|exact map_rep rfl|(simp [sub] <;> rfl))
  · (focus ((conv=>whnf);repeat ((first|refine zo _ ?_|refine zr _ rfl ?_|refine zn _ ?_|refine zs _ ?_|refine zd _ ?_|refine zw _ (by kernel_rfl) ?_);conv=>whnf)))
    refine br_sel h (fun _ h => ?_) (fun _ h => ?_)
    · (focus ((conv=>whnf);repeat ((first|refine zo _ ?_|refine zr _ rfl ?_|refine zn _ ?_|refine zs _ ?_|refine zd _ ?_|refine zw _ (by kernel_rfl) ?_);conv=>whnf)))
      obtain rfl := some_in h
      (first|rfl|exact Nat.le_of_ble_eq_true rfl|exact map_snoc _ _ _|exact map_put _ _ _ _|exact map_rep rfl|(simp [sub] <;> rfl))
    · (focus ((conv=>whnf);repeat ((first|refine zo _ ?_|refine zr _ rfl ?_|refine zn _ ?_|refine zs _ ?_|refine zd _ ?_|refine zw _ (by kernel_rfl) ?_);conv=>whnf)))
      obtain rfl := some_in h
      (first|rfl|exact Nat.le_of_ble_eq_true rfl|exact map_snoc _ _ _|exact map_put _ _ _ _|exact map_rep rfl|(simp [sub] <;> rfl))

theorem l_eqUsedS_ok (N : Nat) (v0 : List (Gx.Used)) (v1 : List (Gx.Used)) {r : Bool} (h : l_eqUsedS N v0 v1 = some r) : Pure Tryz.prog 39 [DV.one (D.sl 2 (List.map Gx.Used.enc v0)), DV.one (D.sl 2 (List.map Gx.Used.enc v1))] (DV.one (D.b r)) := by
  refine pure_of_walk Tryz.tok Tryz.mixed Tryz.func39 (by kernel_rfl) fun W => ?_
  unfold l_eqUsedS at h
  (focus ((conv=>whnf);repeat ((first|refine zo _ ?_|refine zr _ rfl ?_|refine zn _ ?_|refine zs _ ?_|refine zd _ ?_|refine zw _ (by kernel_rfl) ?_);conv=>whnf)))
  refine len_sel (m := (v0.length : Int)) (by (first|rfl|simp [sub])) ?_
  (focus ((conv=>whnf);repeat ((first|refine zo _ ?_|refine zr _ rfl ?_|refine zn _ ?_|refine zs _ ?_|refine zd _ ?_|refine zw _ (by kernel_rfl) ?_);conv=>whnf)))
  refine len_sel (m := (v1.length : Int)) (by (first|rfl|simp [sub])) ?_
  (focus ((conv=>whnf);repeat ((first|refine zo _ ?_|refine zr _ rfl ?_|refine zn _ ?_|refine zs _ ?_|refine zd _ ?_|refine zw _ (by kernel_rfl) ?_);conv=>whnf)))
  refine br_sel h (fun _ h => ?_) (fun _ h => ?_)
  · (focus ((conv=>whnf);repeat ((first|refine zo _ ?_|refine zr _ rfl ?_|refine zn _ ?_|refine zs _ ?_|refine zd _ ?_|refine zw _ (by kernel_rfl) ?_);conv=>whnf)))
    obtain rfl := some_in h
    (first|rfl|exact Nat.le_of_ble_eq_true rfl|exact map_snoc _ _ _|exact map_put _ _ _ _|exact map_rep rfl|(simp [sub] <;> rfl))
  · (focus ((conv=>whnf);repeat ((first|refine zo _ ?_|refine zr _ rfl ?_|refine zn _ ?_|refine zd _ ?_|refine zw _ (by kernel_rfl) ?_);conv=>whnf)))
    obtain ⟨zt4, h, gt4⟩ := cutb_some h
    refine W.r_cut (fun (t4 : Unit) => ⟨[], [], 1000⟩) (fun t => .nx t = zt4) ?_ ?_
    · (focus ((conv=>whnf);repeat ((first|refine zo _ ?_|refine zr _ rfl ?_|refine zn _ ?_|refine zs _ ?_|refine zd _ ?_|refine zw _ (by kernel_rfl) ?_);conv=>whnf)))
      refine loop_lp (fun (p1 : Int) => ⟨[(0, .d (D.sl 2 (List.map Gx.Used.enc v0))), (1, .d (D.sl 2 (List.map Gx.Used.enc v1))), (5, .d (D.i p1))], [], 1000⟩) h ?_ ?_
      · (refine weak_go ?_;(repeat ((conv=>whnf);refine And.intro (by (first|rfl|exact Nat.le_of_ble_eq_true rfl|exact map_snoc _ _ _|exact map_put _ _ _ _|exact map_rep rfl|(simp [sub] <;> rfl))) ?_));(conv=>whnf);exact trivial)
      intro np1 p1 yp1 h hfp1
      unfold l_eqUsedS_L1 at h
      (focus ((conv=>whnf);repeat ((first|refine zo _ ?_|refine zr _ rfl ?_|refine zn _ ?_|refine zs _ ?_|refine zd _ ?_|refine zw _ (by kernel_rfl) ?_);conv=>whnf)))
      refine len_sel (m := (v0.length : Int)) (by (first|rfl|simp [sub])) ?_
      (focus ((conv=>whnf);repeat ((first|refine zo _ ?_|refine zr _ rfl ?_|refine zn _ ?_|refine zs _ ?_|refine zd _ ?_|refine zw _ (by kernel_rfl) ?_);conv=>whnf)))
      refine br_sel h (fun _ h => ?_) (fun _ h => ?_)
      · (focus ((conv=>whnf);repeat ((first|refine zo _ ?_|refine zr _ rfl ?_|refine zn _ ?_|refine zs _ ?_|refine zd _ ?_|refine zw _ (by kernel_rfl) ?_);conv=>whnf)))
        refine idx_sel h (fun x1 hx1 h => ?_)
        (focus ((conv=>whnf);repeat ((first|refine zo _ ?_|refine zr _ rfl ?_|refine zn _ ?_|refine zs _ ?_|refine zd _ ?_|refine zw _ (by kernel_rfl) ?_);conv=>whnf)))
        refine idx_sel h (fun x2 hx2 h => ?_)
        (focus ((conv=>whnf);repeat ((first|refine zo _ ?_|refine zr _ rfl ?_|refine zn _ ?_|refine zs _ ?_|refine zd _ ?_|refine zw _ (by kernel_rfl) ?_);conv=>whnf)))
        (focus (refine Or.inl ?_; conv => whnf));refine call_sel (E := fun (x : Bool) => DV.one (D.b x)) h (fun x3 h1 => (l_eqUsed_ok N x1 x2 h1)) (fun x3 hx3 h => ?_)
        (focus ((conv=>whnf);repeat ((first|refine zo _ ?_|refine zr _ rfl ?_|refine zn _ ?_|refine zs _ ?_|refine zd _ ?_|refine zw _ (by kernel_rfl) ?_);conv=>whnf)))
        refine br_sel h (fun _ h => ?_) (fun _ h => ?_)
        · (focus ((conv=>whnf);repeat ((first|refine zo _ ?_|refine zr _ rfl ?_|refine zn _ ?_|refine zs _ ?_|refine zd _ ?_|refine zw _ (by kernel_rfl) ?_);conv=>whnf)))
          obtain rfl := some_in h
          have h : some _ = some _ := congrArg some (show _ = _ from hfp1)
          obtain rfl := some_in h
          have h : some _ = some _ := congrArg some (show _ = _ from gt4)
          obtain rfl := some_in h
          (first|rfl|exact Nat.le_of_ble_eq_true rfl|exact map_snoc _ _ _|exact map_put _ _ _ _|exact map_rep rfl|(simp [sub] <;> rfl))
        · (focus ((conv=>whnf);repeat ((first|refine zo _ ?_|refine zr _ rfl ?_|refine zn _ ?_|refine zs _ ?_|refine zd _ ?_|refine zw _ (by kernel_rfl) ?_);conv=>whnf)))
          obtain rfl := some_in h
          refine loop_back hfp1 ?_
          (refine weak_go ?_;(repeat ((conv=>whnf);refine And.intro (by (first|rfl|exact Nat.le_of_ble_eq_true rfl|exact map_snoc _ _ _|exact map_put _ _ _ _|exact map_rep rfl|(simp [sub] <;> rfl))) ?_));(conv=>whnf);exact trivial)
      · (focus ((conv=>whnf);repeat ((first|refine zo _ ?_|refine zr _ rfl ?_|refine zn _ ?_|refine zs _ ?_|refine zd _ ?_|refine zw _ (by kernel_rfl) ?_);conv=>whnf)))
        obtain rfl := some_in h
        have h : some _ = some _ := congrArg some (show _ = _ from hfp1)
        refine cut_at (()) (some_in h) ?_
        (refine weak_go ?_;(repeat ((conv=>whnf);refine And.intro (by (first|rfl|exact Nat.le_of_ble_eq_true rfl|exact map_snoc _ _ _|exact map_put _ _ _ _|exact map_rep rfl|(simp [sub] <;> rfl))) ?_));(conv=>whnf);exact trivial)
    rintro t4 rfl
    have h : _ = some _ := gt4
    (focus ((conv=>whnf);repeat ((first|refine zo _ ?_|refine zr _ rfl ?_|refine zn _ ?_|refine zs _ ?_|refine zd _ ?_|refine zw _ (by kernel_rfl) ?_);conv=>whnf)))
    obtain rfl := some_in h
    (first|rfl|exact Nat.le_of_ble_eq_true rfl|exact map_snoc _ _ _|exact map_put _ _ _ _|exact map_rep rfl|(simp [sub] <;> rfl))

theorem l_eqCorrection_ok (N : Nat) (v0 : Gx.Correction) (v1 : Gx.Correction) {r : Bool} (h : l_eqCorrection N v0 v1 = some r) : Pure Tryz.prog 77 [DV.agg (Gx.Correction.enc v0), DV.agg (Gx.Correction.enc v1)] (DV.one (D.b r)) := by
  refine pure_of_walk Tryz.tok Tryz.mixed Tryz.func77 (by kernel_rfl) fun W => ?_
  unfold l_eqCorrection at h
  (focus ((conv=>whnf);repeat ((first|refine zo _ ?_|refine zr _ rfl ?_|refine zn _ ?_|refine zs _ ?_|refine zd _ ?_|refine zw _ (by kernel_rfl) ?_);conv=>whnf)))
  refine br_sel h (fun _ h => ?_) (fun _ h => ?_)
  · (focus ((conv=>whnf);repeat ((first|refine zo _ ?_|refine zr _ rfl ?_|refine zn _ ?_|refine zs _ ?_|refine zd _ ?_|refine zw _ (by kernel_rfl) ?_);conv=>whnf)))
    obtain rfl := some_in h
    (first|rfl|exact Nat.le_of_ble_eq_true rfl|exact map_snoc _ _ _|exact map_put _ _ _ _|exact map_rep rfl|(simp [sub] <;> rfl))
  · (focus ((conv=>whnf);repeat ((first|refine zo _ ?_|refine zr _ rfl ?_|refine zn _ ?_|refine zs _ ?_|refine zd _ ?_|refine zw _ (by kernel_rfl) ?_);conv=>whnf)))
    refine br_sel h (fun _ h => ?_) (fun _ h => ?_)
    · (focus ((conv=>whnf);repeat ((first|refine zo _ ?_|refine zr _ rfl ?_|refine zn _ ?_|refine zs _ ?_|refine zd _ ?_|refine zw _ (by kernel_rfl) ?_);conv=>whnf)))
      obtain rfl := some_in h
      (first|rfl|exact Nat.le_of_ble_eq_true rfl|exact map_snoc _ _ _|exact map_put _ _ _ _|exact map_rep rfl|(simp [sub] <;> rfl))
    · (focus ((conv=>whnf);repeat ((first|refine zo _ ?_|refine zr _ rfl ?_|refine zn _ ?_|refine zs _ ?_|refine zd _ ?_|refine zw _ (by kernel_rfl) ?_);conv=>whnf)))
      (focus (refine Or.inl ?_; conv => whnf));refine call_sel (E := fun (x : Bool) => DV.one (D.b x)) h (fun x1 h1 => (l_eqClue_ok N v0.mClue v1.mClue h1)) (fun x1 hx1 h => ?_)
      (focus ((conv=>whnf);repeat ((first|refine zo _ ?_|refine zr _ rfl ?_|refine zn _ ?_|refine zs _ ?_|refine zd _ ?_|refine zw _ (by kernel_rfl) ?_);conv=>whnf)))
      refine br_sel h (fun _ h => ?_) (fun _ h => ?_)
      · (focus ((conv=>whnf);repeat ((first|refine zo _ ?_|refine zr _ rfl ?_|refine zn _ ?_|refine zs _ ?_|refine zd _ ?_|refine zw _ (by kernel_rfl) ?_);conv=>whnf)))
        obtain rfl := some_in h
        (first|rfl|exact Nat.le_of_ble_eq_true rfl|exact map_snoc _ _ _|exact map_put _ _ _ _|exact map_rep rfl|(simp [sub] <;> rfl))
      · (focus ((conv=>whnf);repeat ((first|refine zo _ ?_|refine zr _ rfl ?_|refine zn _ ?_|refine zs _ ?_|refine zd _ ?_|refine zw _ (by kernel_rfl) ?_);conv=>whnf)))
        refine br_sel h (fun _ h => ?_) (fun _ h => ?_)
        · (focus ((conv=>whnf);repeat ((first|refine zo _ ?_|refine zr _ rfl ?_|refine zn _ ?_|refine zs _ ?_|refine zd _ ?_|refine zw _ (by kernel_rfl) ?_);conv=>whnf)))
          obtain rfl := some_in h
          (first|rfl|exact Nat.le_of_ble_eq_true rfl|exact map_snoc _ _ _|exact map_put _ _ _ _|exact map_rep rfl|(simp [sub] <;> rfl))
        · (focus ((conv=>whnf);repeat ((first|refine zo _ ?_|refine zr _ rfl ?_|refine zn _ ?_|refine zs _ ?_|refine zd _ ?_|refine zw _ (by kernel_rfl) ?_);conv=>whnf)))
          obtain rfl := some_in h
          (first|rfl|exact Nat.le_of_ble_eq_true rfl|exact map_snoc _ _ _|exact map_put _ _ _ _|exact map_rep rfl|(simp [sub] <;> rfl))

theorem l_eqCorrectionS_ok (N : Nat) (v0 : List (Gx.Correction)) (v1 : List (Gx.Correction)) {r : Bool} (h : l_eqCorrectionS N v0 v1 = some r) : Pure Tryz.prog 40 [DV.one (D.sl 5 (List.map Gx.Correction.enc v0)), DV.one (D.sl 5 (List.map Gx.Correction.enc v1))] (DV.one (D.b r)) := by
  refine pure_of_walk Tryz.tok Tryz.mixed Tryz.func40 (by kernel_rfl) fun W => ?_
  unfold l_eqCorrectionS at h
  (focus ((conv=>whnf);repeat ((first|refine zo _ ?_|refine zr _ rfl ?_|refine zn _ ?_|refine zs _ ?_|refine zd _ ?_|refine zw _ (by kernel_rfl) ?_);conv=>whnf)))
  refine len_sel (m := (v0.length : Int)) (by (first|rfl|simp [sub])) ?_
  (focus ((conv=>whnf);repeat ((first|refine zo _ ?_|refine zr _ rfl ?_|refine zn _ ?_|refine zs _ ?_|refine zd _ ?_|refine zw _ (by kernel_rfl) ?_);conv=>whnf)))
  refine len_sel (m := (v1.length : Int)) (by (first|rfl|simp [sub])) ?_
  (focus ((conv=>whnf);repeat ((first|refine zo _ ?_|refine zr _ rfl ?_|refine zn _ ?_|refine zs _ ?_|refine zd _ ?_|refine zw _ (by kernel_rfl) ?_);conv=>whnf)))
  refine br_sel h (fun _ h => ?_) (fun _ h => ?_)
  · (focus ((conv=>whnf);repeat ((first|refine zo _ ?_|refine zr _ rfl ?_|refine zn _ ?_|refine zs _ ?_|refine zd _ ?_|refine zw _ (by kernel_rfl) ?_);conv=>whnf)))
    obtain rfl := some_in h
    (first|rfl|exact Nat.le_of_ble_eq_true rfl|exact map_snoc _ _ _|exact map_put _ _ _ _|exact map_rep rfl|(simp [sub] <;> rfl))
  · (focus ((conv=>whnf);repeat ((first|refine zo _ ?_|refine zr _ rfl ?_|refine zn _ ?_|refine zd _ ?_|refine zw _ (by kernel_rfl) ?_);conv=>whnf)))
    obtain ⟨zt4, h, gt4⟩ := cutb_some h
    refine W.r_cut (fun (t4 : Unit) => ⟨[], [], 1000⟩) (fun t => .nx t = zt4) ?_ ?_
    · (focus ((conv=>whnf);repeat ((first|refine zo _ ?_|refine zr _ rfl ?_|refine zn _ ?_|refine zs _ ?_|refine zd _ ?_|refine zw _ (by kernel_rfl) ?_);conv=>whnf)))
      refine loop_lp (fun (p1 : Int) => ⟨[(0, .d (D.sl 5 (List.map Gx.Correction.enc v0))), (1, .d (D.sl 5 (List.map Gx.Correction.enc v1))), (5, .d (D.i p1))], [], 1000⟩) h ?_ ?_
      · (refine weak_go ?_;(repeat ((conv=>whnf);refine And.intro (by (first|rfl|exact Nat.le_of_ble_eq_true rfl|exact map_snoc _ _ _|exact map_put _ _ _ _|exact map_rep rfl|(simp [sub] <;> rfl))) ?_));(conv=>whnf);exact trivial)
      intro np1 p1 yp1 h hfp1
      unfold l_eqCorrectionS_L1 at h
      (focus ((conv=>whnf);repeat ((first|refine zo _ ?_|refine zr _ rfl ?_|refine zn _ ?_|refine zs _ ?_|refine zd _ ?_|refine zw _ (by kernel_rfl) ?_);conv=>whnf)))
      refine len_sel (m := (v0.length : Int)) (by (first|rfl|simp [sub])) ?_
      (focus ((conv=>whnf);repeat ((first|refine zo _ ?_|refine zr _ rfl ?_|refine zn _ ?_|refine zs _ ?_|refine zd _ ?_|refine zw _ (by kernel_rfl) ?_);conv=>whnf)))
      refine br_sel h (fun _ h => ?_) (fun _ h => ?_)
      · (focus ((conv=>whnf);repeat ((first|refine zo _ ?_|refine zr _ rfl ?_|refine zn _ ?_|refine zs _ ?_|refine zd _ ?_|refine zw _ (by kernel_rfl) ?_);conv=>whnf)))
        refine idx_sel h (fun x1 hx1 h => ?_)
        (focus ((conv=>whnf);repeat ((first|refine zo _ ?_|refine zr _ rfl ?_|refine zn _ ?_|refine zs _ ?_|refine zd _ ?_|refine zw _ (by kernel_rfl) ?_);conv=>whnf)))
        refine idx_sel h (fun x2 hx2 h => ?_)
        (focus ((conv=>whnf);repeat ((first|refine zo _ ?_|refine zr _ rfl ?_|refine zn _ ?_|refine zs _ ?_|refine zd _ ?_|refine zw _ (by kernel_rfl) ?_);conv=>whnf)))
        (focus (refine Or.inl ?_; conv => whnf));refine call_sel (E := fun (x : Bool) => DV.one (D.b x)) h (fun x3 h1 => (l_eqCorrection_ok N x1 x2 h1)) (fun x3 hx3 h => ?_)
        (focus ((conv=>whnf);repeat ((first|refine zo _ ?_|refine zr _ rfl ?_|refine zn _ ?_|refine zs _ ?_|refine zd _ ?_|refine zw _ (by kernel_rfl) ?_);conv=>whnf)))
        refine br_sel h (fun _ h => ?_) (fun _ h => ?_)
        · (focus ((conv=>whnf);repeat ((first|refine zo _ ?_|refine zr _ rfl ?_|refine zn _ ?_|refine zs _ ?_|refine zd _ ?_|refine zw _ (by kernel_rfl) ?_);conv=>whnf)))
          obtain rfl := some_in h
          have h : some _ = some _ := congrArg some (show _ = _ from hfp1)
          obtain rfl := some_in h
          have h : some _ = some _ := congrArg some (show _ = _ from gt4)
          obtain rfl := some_in h
          (first|rfl|exact Nat.le_of_ble_eq_true rfl|exact map_snoc _ _ _|exact map_put _ _ _ _|exact map_rep rfl|(simp [sub] <;> rfl))
        · (focus ((conv=>whnf);repeat ((first|refine zo _ ?_|refine zr _ rfl ?_|refine zn _ ?_|refine zs _ ?_|refine zd _ ?_|refine zw _ (by kernel_rfl) ?_);conv=>whnf)))
          obtain rfl := some_in h
          refine loop_back hfp1 ?_
          (refine weak_go ?_;(repeat ((conv=>whnf);refine And.intro (by (first|rfl|exact Nat.le_of_ble_eq_true rfl|exact map_snoc _ _ _|exact map_put _ _ _ _|exact map_rep rfl|(simp [sub] <;> rfl))) ?_));(conv=>whnf);exact trivial)
      · (focus ((conv=>whnf);repeat ((first|refine zo _ ?_|refine zr _ rfl ?_|refine zn _ ?_|refine zs _ ?_|refine zd _ ?_|refine zw _ (by kernel_rfl) ?_);conv=>whnf)))
        obtain rfl := some_in h
        have h : some _ = some _ := congrArg some (show _ = _ from hfp1)
        refine cut_at (()) (some_in h) ?_
        (refine weak_go ?_;(repeat ((conv=>whnf);refine And.intro (by (first|rfl|exact Nat.le_of_ble_eq_true rfl|exact map_snoc _ _ _|exact map_put _ _ _ _|exact map_rep rfl|(simp [sub] <;> rfl))) ?_));(conv=>whnf);exact trivial)
    rintro t4 rfl
    have h : _ = some _ := gt4
    (focus ((conv=>whnf);repeat ((first|refine zo _ ?_|refine zr _ rfl ?_|refine zn _ ?_|refine zs _ ?_|refine zd _ ?_|refine zw _ (by kernel_rfl) ?_);conv=>whnf)))
    obtain rfl := some_in h
    (first|rfl|exact Nat.le_of_ble_eq_true rfl|exact map_snoc _ _ _|exact map_put _ _ _ _|exact map_rep rfl|(simp [sub] <;> rfl))

theorem l_eqEntry_ok (N : Nat) (v0 : Gx.Entry) (v1 : Gx.Entry) {r : Bool} (h : l_eqEntry N v0 v1 = some r) : Pure Tryz.prog 78 [DV.agg (Gx.Entry.enc v0), DV.agg (Gx.Entry.enc v1)] (DV.one (D.b r)) := by
  refine pure_of_walk Tryz.tok Tryz.mixed Tryz.func78 (by kernel_rfl) fun W => ?_
  unfold l_eqEntry at h
  (focus ((conv=>whnf);repeat ((first|refine zo _ ?_|refine zr _ rfl ?_|refine zn _ ?_|refine zs _ ?_|refine zd _ ?_|refine zw _ (by kernel_rfl) ?_);conv=>whnf)))
  refine br_sel h (fun _ h => ?_) (fun _ h => ?_)
  · (focus ((conv=>whnf);repeat ((first|refine zo _ ?_|refine zr _ rfl ?_|refine zn _ ?_|refine zs _ ?_|refine zd _ ?_|refine zw _ (by kernel_rfl) ?_);conv=>whnf)))
    obtain rfl := some_in h
    (first|rfl|exact Nat.le_of_ble_eq_true rfl|exact map_snoc _ _ _|exact map_put _ _ _ _|exact map_rep rfl|(simp [sub] <;> rfl))
  · (focus ((conv=>whnf);repeat ((first|refine zo _ ?_|refine zr _ rfl ?_|refine zn _ ?_|refine zs _ ?_|refine zd _ ?_|refine zw _ (by kernel_rfl) ?_);conv=>whnf)))
    refine br_sel h (fun _ h => ?_) (fun _ h => ?_)
    · (focus ((conv=>whnf);repeat ((first|refine zo _ ?_|refine zr _ rfl ?_|refine zn _ ?_|refine zs _ ?_|refine zd _ ?_|refine zw _ (by kernel_rfl) ?_);conv=>whnf)))
      obtain rfl := some_in h
      (first|rfl|exact Nat.le_of_ble_eq_true rfl|exact map_snoc _ _ _|exact map_put _ _ _ _|exact map_rep rfl|(simp [sub] <;> rfl))
    · (focus ((conv=>whnf);repeat ((first|refine zo _ ?_|refine zr _ rfl ?_|refine zn _ ?_|refine zs _ ?_|refine zd _ ?_|refine zw _ (by kernel_rfl) ?_);conv=>whnf)))
      refine br_sel h (fun _ h => ?_) (fun _ h => ?_)
      · (focus ((conv=>whnf);repeat ((first|refine zo _ ?_|refine zr _ rfl ?_|refine zn _ ?_|refine zs _ ?_|refine zd _ ?_|refine zw _ (by kernel_rfl) ?_);conv=>whnf)))
        obtain rfl := some_in h
        (first|rfl|exact Nat.le_of_ble_eq_true rfl|exact map_snoc _ _ _|exact map_put _ _ _ _|exact map_rep rfl|(simp [sub] <;> rfl))
      · (focus ((conv=>whnf);repeat ((first|refine zo _ ?_|refine zr _ rfl ?_|refine zn _ ?_|refine zs _ ?_|refine zd _ ?_|refine zw _ (by kernel_rfl) ?_);conv=>whnf)))
        refine br_sel h (fun _ h => ?_) (fun _ h => ?_)
        · (focus ((conv=>whnf);repeat ((first|refine zo _ ?_|refine zr _ rfl ?_|refine zn _ ?_|refine zs _ ?_|refine zd _ ?_|refine zw _ (by kernel_rfl) ?_);conv=>whnf)))
          obtain rfl := some_in h
          (first|rfl|exact Nat.le_of_ble_eq_true rfl|exact map_snoc _ _ _|exact map_put _ _ _ _|exact map_rep rfl|(simp [sub] <;> rfl))
        · (focus ((conv=>whnf);repeat ((first|refine zo _ ?_|refine zr _ rfl ?_|refine zn _ ?_|refine zs _ ?_|refine zd _ ?_|refine zw _ (by kernel_rfl) ?_);conv=>whnf)))
          obtain rfl := some_in h
          (first|rfl|exact Nat.le_of_ble_eq_true rfl|exact map_snoc _ _ _|exact map_put _ _ _ _|exact map_rep rfl|(simp [sub] <;> rfl))

theorem l_eqEntryS_ok (N : Nat) (v0 : List (Gx.Entry)) (v1 : List (Gx.Entry)) {r : Bool} (h : l_eqEntryS N v0 v1 = some r) : Pure Tryz.prog 41 [DV.one (D.sl 4 (List.map Gx.Entry.enc v0)), DV.one (D.sl 4 (List.map Gx.Entry.enc v1))] (DV.one (D.b r)) := by
  refine pure_of_walk Tryz.tok Tryz.mixed Tryz.func41 (by kernel_rfl) fun W => ?_
  unfold l_eqEntryS at h
  (focus ((conv=>whnf);repeat ((first|refine zo _ ?_|refine zr _ rfl ?_|refine zn _ ?_|refine zs _ ?_|refine zd _ ?_|refine zw _ (by kernel_rfl) ?_);conv=>whnf)))
  refine len_sel (m := (v0.length : Int)) (by (first|rfl|simp [sub])) ?_
  (focus ((conv=>whnf);repeat ((first|refine zo _ ?_|refine zr _ rfl ?_|refine zn _ ?_|refine zs _ ?_|refine zd _ ?_|refine zw _ (by kernel_rfl) ?_);conv=>whnf)))
  refine len_sel (m := (v1.length : Int)) (by (first|rfl|simp [sub])) ?_
  (focus ((conv=>whnf);repeat ((first|refine zo _ ?_|refine zr _ rfl ?_|refine zn _ ?_|refine zs _ ?_|refine zd _ ?_|refine zw _ (by kernel_rfl) ?_);conv=>whnf)))
  refine br_sel h (fun _ h => ?_) (fun _ h => ?_)
  · (focus ((conv=>whnf);repeat ((first|refine zo _ ?_|refine zr _ rfl ?_|refine zn _ ?_|refine zs _ ?_|refine zd _ ?_|refine zw _ (by kernel_rfl) ?_);conv=>whnf)))
    obtain rfl := some_in h
    (first|rfl|exact Nat.le_of_ble_eq_true rfl|exact map_snoc _ _ _|exact map_put _ _ _ _|exact map_rep rfl|(simp [sub] <;> rfl))
  · (focus ((conv=>whnf);repeat ((first|refine zo _ ?_|refine zr _ rfl ?_|refine zn _ ?_|refine zd _ ?_|refine zw _ (by kernel_rfl) ?_);conv=>whnf)))
    obtain ⟨zt4, h, gt4⟩ := cutb_some h
    refine W.r_cut (fun (t4 : Unit) => ⟨[], [], 1000⟩) (fun t => .nx t = zt4) ?_ ?_
    · (focus ((conv=>whnf);repeat ((first|refine zo _ ?_|refine zr _ rfl ?_|refine zn _ ?_|refine zs _ ?_|refine zd _ ?_|refine zw _ (by kernel_rfl) ?_);conv=>whnf)))
      refine loop_lp (fun (p1 : Int) => ⟨[(0, .d (D.sl 4 (List.map Gx.Entry.enc v0))), (1, .d (D.sl 4 (List.map Gx.Entry.enc v1))), (5, .d (D.i p1))], [], 1000⟩) h ?_ ?_
      · (refine weak_go ?_;(repeat ((conv=>whnf);refine And.intro (by (first|rfl|exact Nat.le_of_ble_eq_true rfl|exact map_snoc _ _ _|exact map_put _ _ _ _|exact map_rep rfl|(simp [sub] <;> rfl))) ?_));(conv=>whnf);exact trivial)
      intro np1 p1 yp1 h hfp1
      unfold l_eqEntryS_L1 at h
      (focus ((conv=>whnf);repeat ((first|refine zo _ ?_|refine zr _ rfl ?_|refine zn _ ?_|refine zs _ ?_|refine zd _ ?_|refine zw _ (by kernel_rfl) ?_);conv=>whnf)))
      refine len_sel (m := (v0.length : Int)) (by (first|rfl|simp [sub])) ?_
      (focus ((conv=>whnf);repeat ((first|refine zo _ ?_|refine zr _ rfl ?_|refine zn _ ?_|refine zs _ ?_|refine zd _ ?_|refine zw _ (by kernel_rfl) ?_);conv=>whnf)))
      refine br_sel h (fun _ h => ?_) (fun _ h => ?_)
      · (focus ((conv=>whnf);repeat ((first|refine zo _ ?_|refine zr _ rfl ?_|refine zn _ ?_|refine zs _ ?_|refine zd _ ?_|refine zw _ (by kernel_rfl) ?_);conv=>whnf)))
        refine idx_sel h (fun x1 hx1 h => ?_)
        (focus ((conv=>whnf);repeat ((first|refine zo _ ?_|refine zr _ rfl ?_|refine zn _ ?_|refine zs _ ?_|refine zd _ ?_|refine zw _ (by kernel_rfl) ?_);conv=>whnf)))
        refine idx_sel h (fun x2 hx2 h => ?_)
        (focus ((conv=>whnf);repeat ((first|refine zo _ ?_|refine zr _ rfl ?_|refine zn _ ?_|refine zs _ ?_|refine zd _ ?_|refine zw _ (by kernel_rfl) ?_);conv=>whnf)))
        (focus (refine Or.inl ?_; conv => whnf));refine call_sel (E := fun (x : Bool) => DV.one (D.b x)) h (fun x3 h1 => (l_eqEntry_ok N x1 x2 h1)) (fun x3 hx3 h => ?_)
        (focus ((conv=>whnf);repeat ((first|refine zo _ ?_|refine zr _ rfl ?_|refine zn _ ?_|refine zs _ ?_|refine zd _ ?_|refine zw _ (by kernel_rfl) ?_);conv=>whnf)))
        refine br_sel h (fun _ h => ?_) (fun _ h => ?_)
        · (focus ((conv=>whnf);repeat ((first|refine zo _ ?_|refine zr _ rfl ?_|refine zn _ ?_|refine zs _ ?_|refine zd _ ?_|refine zw _ (by kernel_rfl) ?_);conv=>whnf)))
          obtain rfl := some_in h
          have h : some _ = some _ := congrArg some (show _ = _ from hfp1)
          obtain rfl := some_in h
          have h : some _ = some _ := congrArg some (show _ = _ from gt4)
          obtain rfl := some_in h
          (first|rfl|exact Nat.le_of_ble_eq_true rfl|exact map_snoc _ _ _|exact map_put _ _ _ _|exact map_rep rfl|(simp [sub] <;> rfl))
        · (focus ((conv=>whnf);repeat ((first|refine zo _ ?_|refine zr _ rfl ?_|refine zn _ ?_|refine zs _ ?_|refine zd _ ?_|refine zw _ (by kernel_rfl) ?_);conv=>whnf)))
          obtain rfl := some_in h
          refine loop_back hfp1 ?_
          (refine weak_go ?_;(repeat ((conv=>whnf);refine And.intro (by (first|rfl|exact Nat.le_of_ble_eq_true rfl|exact map_snoc _ _ _|exact map_put _ _ _ _|exact map_rep rfl|(simp [sub] <;> rfl))) ?_));(conv=>whnf);exact trivial)
      · (focus ((conv=>whnf);repeat ((first|refine zo _ ?_|refine zr _ rfl ?_|refine zn _ ?_|refine zs _ ?_|refine zd _ ?_|refine zw _ (by kernel_rfl) ?_);conv=>whnf)))
        obtain rfl := some_in h
        have h : some _ = some _ := congrArg some (show _ = _ from hfp1)
        refine cut_at (()) (some_in h) ?_
        (refine weak_go ?_;(repeat ((conv=>whnf);refine And.intro (by (first|rfl|exact Nat.le_of_ble_eq_true rfl|exact map_snoc _ _ _|exact map_put _ _ _ _|exact map_rep rfl|(simp [sub] <;> rfl))) ?_));(conv=>whnf);exact trivial)
    rintro t4 rfl
    have h : _ = some _ := gt4
    (focus ((conv=>whnf);repeat ((first|refine zo _ ?_|refine zr _ rfl ?_|refine zn _ ?_|refine zs _ ?_|refine zd _ ?_|refine zw _ (by kernel_rfl) ?_);conv=>whnf)))
    obtain rfl := some_in h
    (first|rfl|exact Nat.le_of_ble_eq_true rfl|exact map_snoc _ _ _|exact map_put _ _ _ _|exact map_rep rfl|(simp [sub] <;> rfl))

theorem l_eqHouse_ok (N : Nat) (v0 : Gx.House) (v1 : Gx.House) {r : Bool} (h : l_eqHouse N v0 v1 = some r) : Pure Tryz.prog 10 [DV.agg (Gx.House.enc v0), DV.agg (Gx.House.enc v1)] (DV.one (D.b r)) := by
  refine pure_of_walk Tryz.tok Tryz.mixed Tryz.func10 (by kernel_rfl) fun W => ?_
  unfold l_eqHouse at h
  (focus ((conv=>whnf);repeat ((first|refine zo _ ?_|refine zr _ rfl ?_|refine zn _ ?_|refine zs _ ?_|refine zd _ ?_|refine zw _ (by kernel_rfl) ?_);conv=>whnf)))
  (focus (refine Or.inl ?_; conv => whnf));refine call_sel (E := fun (x : Bool) => DV.one (D.b x)) h (fun x1 h1 => (l_eqListedS_ok N v0.mList v1.mList h1)) (fun x1 hx1 h => ?_)
  (focus ((conv=>whnf);repeat ((first|refine zo _ ?_|refine zr _ rfl ?_|refine zn _ ?_|refine zs _ ?_|refine zd _ ?_|refine zw _ (by kernel_rfl) ?_);conv=>whnf)))
  refine br_sel h (fun _ h => ?_) (fun _ h => ?_)
  · (focus ((conv=>whnf);repeat ((first|refine zo _ ?_|refine zr _ rfl ?_|refine zn _ ?_|refine zs _ ?_|refine zd _ ?_|refine zw _ (by kernel_rfl) ?_);conv=>whnf)))
    obtain rfl := some_in h
    (first|rfl|exact Nat.le_of_ble_eq_true rfl|exact map_snoc _ _ _|exact map_put _ _ _ _|exact map_rep rfl|(simp [sub] <;> rfl))
  · (focus ((conv=>whnf);repeat ((first|refine zo _ ?_|refine zr _ rfl ?_|refine zn _ ?_|refine zs _ ?_|refine zd _ ?_|refine zw _ (by kernel_rfl) ?_);conv=>whnf)))
    (focus (refine Or.inl ?_; conv => whnf));refine call_sel (E := fun (x : Bool) => DV.one (D.b x)) h (fun x2 h1 => (l_eqMeaningS_ok N v0.mDict v1.mDict h1)) (fun x2 hx2 h => ?_)
    (focus ((conv=>whnf);repeat ((first|refine zo _ ?_|refine zr _ rfl ?_|refine zn _ ?_|refine zs _ ?_|refine zd _ ?_|refine zw _ (by kernel_rfl) ?_);conv=>whnf)))
    refine br_sel h (fun _ h => ?_) (fun _ h => ?_)
    · (focus ((conv=>whnf);repeat ((first|refine zo _ ?_|refine zr _ rfl ?_|refine zn _ ?_|refine zs _ ?_|refine zd _ ?_|refine zw _ (by kernel_rfl) ?_);conv=>whnf)))
      obtain rfl := some_in h
      (first|rfl|exact Nat.le_of_ble_eq_true rfl|exact map_snoc _ _ _|exact map_put _ _ _ _|exact map_rep rfl|(simp [sub] <;> rfl))
    · (focus ((conv=>whnf);repeat ((first|refine zo _ ?_|refine zr _ rfl ?_|refine zn _ ?_|refine zs _ ?_|refine zd _ ?_|refine zw _ (by kernel_rfl) ?_);conv=>whnf)))
      (focus (refine Or.inl ?_; conv => whnf));refine call_sel (E := fun (x : Bool) => DV.one (D.b x)) h (fun x3 h1 => (l_eqDraft_ok N v0.mDesk v1.mDesk h1)) (fun x3 hx3 h => ?_)
      (focus ((conv=>whnf);repeat ((first|refine zo _ ?_|refine zr _ rfl ?_|refine zn _ ?_|refine zs _ ?_|refine zd _ ?_|refine zw _ (by kernel_rfl) ?_);conv=>whnf)))
      refine br_sel h (fun _ h => ?_) (fun _ h => ?_)
      · (focus ((conv=>whnf);repeat ((first|refine zo _ ?_|refine zr _ rfl ?_|refine zn _ ?_|refine zs _ ?_|refine zd _ ?_|refine zw _ (by kernel_rfl) ?_);conv=>whnf)))
        obtain rfl := some_in h
        (first|rfl|exact Nat.le_of_ble_eq_true rfl|exact map_snoc _ _ _|exact map_put _ _ _ _|exact map_rep rfl|(simp [sub] <;> rfl))
      · (focus ((conv=>whnf);repeat ((first|refine zo _ ?_|refine zr _ rfl ?_|refine zn _ ?_|refine zs _ ?_|refine zd _ ?_|refine zw _ (by kernel_rfl) ?_);conv=>whnf)))
        (focus (refine Or.inl ?_; conv => whnf));refine call_sel (E := fun (x : Bool) => DV.one (D.b x)) h (fun x4 h1 => (l_eqIssueS_ok N v0.mIssues v1.mIssues h1)) (fun x4 hx4 h => ?_)
        (focus ((conv=>whnf);repeat ((first|refine zo _ ?_|refine zr _ rfl ?_|refine zn _ ?_|refine zs _ ?_|refine zd _ ?_|refine zw _ (by kernel_rfl) ?_);conv=>whnf)))
        refine br_sel h (fun _ h => ?_) (fun _ h => ?_)
        · (focus ((conv=>whnf);repeat ((first|refine zo _ ?_|refine zr _ rfl ?_|refine zn _ ?_|refine zs _ ?_|refine zd _ ?_|refine zw _ (by kernel_rfl) ?_);conv=>whnf)))
          obtain rfl := some_in h
          (first|rfl|exact Nat.le_of_ble_eq_true rfl|exact map_snoc _ _ _|exact map_put _ _ _ _|exact map_rep rfl|(simp [sub] <;> rfl))
        · (focus ((conv=>whnf);repeat ((first|refine zo _ ?_|refine zr _ rfl ?_|refine zn _ ?_|refine zs _ ?_|refine zd _ ?_|refine zw _ (by kernel_rfl) ?_);conv=>whnf)))
          (focus (refine Or.inl ?_; conv => whnf));refine call_sel (E := fun (x : Bool) => DV.one (D.b x)) h (fun x5 h1 => (l_eqUsedS_ok N v0.mUses v1.mUses h1)) (fun x5 hx5 h => ?_)
          (focus ((conv=>whnf);repeat ((first|refine zo _ ?_|refine zr _ rfl ?_|refine zn _ ?_|refine zs _ ?_|refine zd _ ?_|refine zw _ (by kernel_rfl) ?_);conv=>whnf)))
          refine br_sel h (fun _ h => ?_) (fun _ h => ?_)
          · (focus ((conv=>whnf);repeat ((first|refine zo _ ?_|refine zr _ rfl ?_|refine zn _ ?_|refine zs _ ?_|refine zd _ ?_|refine zw _ (by kernel_rfl) ?_);conv=>whnf)))
            obtain rfl := some_in h
            (first|rfl|exact Nat.le_of_ble_eq_true rfl|exact map_snoc _ _ _|exact map_put _ _ _ _|exact map_rep rfl|(simp [sub] <;> rfl))
          · (focus ((conv=>whnf);repeat ((first|refine zo _ ?_|refine zr _ rfl ?_|refine zn _ ?_|refine zs _ ?_|refine zd _ ?_|refine zw _ (by kernel_rfl) ?_);conv=>whnf)))
            (focus (refine Or.inl ?_; conv => whnf));refine call_sel (E := fun (x : Bool) => DV.one (D.b x)) h (fun x6 h1 => (l_eqCorrectionS_ok N v0.mCorrections v1.mCorrections h1)) (fun x6 hx6 h => ?_)
            (focus ((conv=>whnf);repeat ((first|refine zo _ ?_|refine zr _ rfl ?_|refine zn _ ?_|refine zs _ ?_|refine zd _ ?_|refine zw _ (by kernel_rfl) ?_);conv=>whnf)))
            refine br_sel h (fun _ h => ?_) (fun _ h => ?_)
            · (focus ((conv=>whnf);repeat ((first|refine zo _ ?_|refine zr _ rfl ?_|refine zn _ ?_|refine zs _ ?_|refine zd _ ?_|refine zw _ (by kernel_rfl) ?_);conv=>whnf)))
              obtain rfl := some_in h
              (first|rfl|exact Nat.le_of_ble_eq_true rfl|exact map_snoc _ _ _|exact map_put _ _ _ _|exact map_rep rfl|(simp [sub] <;> rfl))
            · (focus ((conv=>whnf);repeat ((first|refine zo _ ?_|refine zr _ rfl ?_|refine zn _ ?_|refine zs _ ?_|refine zd _ ?_|refine zw _ (by kernel_rfl) ?_);conv=>whnf)))
              (focus (refine Or.inl ?_; conv => whnf));refine call_sel (E := fun (x : Bool) => DV.one (D.b x)) h (fun x7 h1 => (l_eqEntryS_ok N v0.mEntries v1.mEntries h1)) (fun x7 hx7 h => ?_)
              (focus ((conv=>whnf);repeat ((first|refine zo _ ?_|refine zr _ rfl ?_|refine zn _ ?_|refine zs _ ?_|refine zd _ ?_|refine zw _ (by kernel_rfl) ?_);conv=>whnf)))
              refine br_sel h (fun _ h => ?_) (fun _ h => ?_)
              · (focus ((conv=>whnf);repeat ((first|refine zo _ ?_|refine zr _ rfl ?_|refine zn _ ?_|refine zs _ ?_|refine zd _ ?_|refine zw _ (by kernel_rfl) ?_);conv=>whnf)))
                obtain rfl := some_in h
                (first|rfl|exact Nat.le_of_ble_eq_true rfl|exact map_snoc _ _ _|exact map_put _ _ _ _|exact map_rep rfl|(simp [sub] <;> rfl))
              · (focus ((conv=>whnf);repeat ((first|refine zo _ ?_|refine zr _ rfl ?_|refine zn _ ?_|refine zs _ ?_|refine zd _ ?_|refine zw _ (by kernel_rfl) ?_);conv=>whnf)))
                refine br_sel h (fun _ h => ?_) (fun _ h => ?_)
                · (focus ((conv=>whnf);repeat ((first|refine zo _ ?_|refine zr _ rfl ?_|refine zn _ ?_|refine zs _ ?_|refine zd _ ?_|refine zw _ (by kernel_rfl) ?_);conv=>whnf)))
                  obtain rfl := some_in h
                  (first|rfl|exact Nat.le_of_ble_eq_true rfl|exact map_snoc _ _ _|exact map_put _ _ _ _|exact map_rep rfl|(simp [sub] <;> rfl))
                · (focus ((conv=>whnf);repeat ((first|refine zo _ ?_|refine zr _ rfl ?_|refine zn _ ?_|refine zs _ ?_|refine zd _ ?_|refine zw _ (by kernel_rfl) ?_);conv=>whnf)))
                  obtain rfl := some_in h
                  (first|rfl|exact Nat.le_of_ble_eq_true rfl|exact map_snoc _ _ _|exact map_put _ _ _ _|exact map_rep rfl|(simp [sub] <;> rfl))

theorem l_FnExactIssueScore_ok (N : Nat) (v0 : Gx.House) (v1 : Int) {r : Bool} (h : l_FnExactIssueScore N v0 v1 = some r) : Pure Tryz.prog 3 [DV.agg (Gx.House.enc v0), DV.one (D.i v1)] (DV.one (D.b r)) := by
  refine pure_of_walk Tryz.tok Tryz.mixed Tryz.func3 (by kernel_rfl) fun W => ?_
  unfold l_FnExactIssueScore at h
  (focus ((conv=>whnf);repeat ((first|refine zo _ ?_|refine zr _ rfl ?_|refine zn _ ?_|refine zs _ ?_|refine zd _ ?_|refine zw _ (by kernel_rfl) ?_);conv=>whnf)))
  (focus (refine Or.inl ?_; conv => whnf));refine call_sel (E := fun (x : Int) => DV.one (D.i x)) h (fun x1 h1 => (l_szHouse_ok N v0 1048576 h1)) (fun x1 hx1 h => ?_)
  (focus ((conv=>whnf);repeat ((first|refine zo _ ?_|refine zr _ rfl ?_|refine zn _ ?_|refine zs _ ?_|refine zd _ ?_|refine zw _ (by kernel_rfl) ?_);conv=>whnf)))
  refine br_sel h (fun _ h => ?_) (fun _ h => ?_)
  · (focus ((conv=>whnf);repeat ((first|refine zo _ ?_|refine zr _ rfl ?_|refine zn _ ?_|refine zs _ ?_|refine zd _ ?_|refine zw _ (by kernel_rfl) ?_);conv=>whnf)))
    obtain rfl := some_in h
    (first|rfl|exact Nat.le_of_ble_eq_true rfl|exact map_snoc _ _ _|exact map_put _ _ _ _|exact map_rep rfl|(simp [sub] <;> rfl))
  · (focus ((conv=>whnf);repeat ((first|refine zo _ ?_|refine zr _ rfl ?_|refine zn _ ?_|refine zs _ ?_|refine zd _ ?_|refine zw _ (by kernel_rfl) ?_);conv=>whnf)))
    (focus (refine Or.inl ?_; conv => whnf));refine call_sel (E := fun (x : Gx.House) => DV.agg (Gx.House.enc x)) h (fun x2 h1 => (l_toHouse_ok N v0 h1)) (fun x2 hx2 h => ?_)
    (focus ((conv=>whnf);repeat ((first|refine zo _ ?_|refine zr _ rfl ?_|refine zn _ ?_|refine zs _ ?_|refine zd _ ?_|refine zw _ (by kernel_rfl) ?_);conv=>whnf)))
    (focus (refine Or.inl ?_; conv => whnf));refine call_sel (E := fun (x : Int) => DV.one (D.i x)) h (fun x3 h1 => (s_IssueScore_ok N x2 v1 h1)) (fun x3 hx3 h => ?_)
    (focus ((conv=>whnf);repeat ((first|refine zo _ ?_|refine zr _ rfl ?_|refine zn _ ?_|refine zs _ ?_|refine zd _ ?_|refine zw _ (by kernel_rfl) ?_);conv=>whnf)))
    (focus (refine Or.inl ?_; conv => whnf));refine call_sel (E := fun (x : Gx.House) => DV.agg (Gx.House.enc x)) h (fun x4 h1 => (l_toHouse_ok N v0 h1)) (fun x4 hx4 h => ?_)
    (focus ((conv=>whnf);repeat ((first|refine zo _ ?_|refine zr _ rfl ?_|refine zn _ ?_|refine zs _ ?_|refine zd _ ?_|refine zw _ (by kernel_rfl) ?_);conv=>whnf)))
    (focus (refine Or.inl ?_; conv => whnf));refine call_sel (E := fun (x : Int) => DV.one (D.i x)) h (fun x5 h1 => (i_IssueScore_ok N x4 v1 h1)) (fun x5 hx5 h => ?_)
    (focus ((conv=>whnf);repeat ((first|refine zo _ ?_|refine zr _ rfl ?_|refine zn _ ?_|refine zs _ ?_|refine zd _ ?_|refine zw _ (by kernel_rfl) ?_);conv=>whnf)))
    refine br_sel h (fun _ h => ?_) (fun _ h => ?_)
    · (focus ((conv=>whnf);repeat ((first|refine zo _ ?_|refine zr _ rfl ?_|refine zn _ ?_|refine zs _ ?_|refine zd _ ?_|refine zw _ (by kernel_rfl) ?_);conv=>whnf)))
      obtain rfl := some_in h
      (first|rfl|exact Nat.le_of_ble_eq_true rfl|exact map_snoc _ _ _|exact map_put _ _ _ _|exact map_rep rfl|(simp [sub] <;> rfl))
    · (focus ((conv=>whnf);repeat ((first|refine zo _ ?_|refine zr _ rfl ?_|refine zn _ ?_|refine zs _ ?_|refine zd _ ?_|refine zw _ (by kernel_rfl) ?_);conv=>whnf)))
      (focus (refine Or.inl ?_; conv => whnf));refine call_sel (E := fun (x : Gx.House) => DV.agg (Gx.House.enc x)) h (fun x6 h1 => (l_toHouse_ok N v0 h1)) (fun x6 hx6 h => ?_)
      (focus ((conv=>whnf);repeat ((first|refine zo _ ?_|refine zr _ rfl ?_|refine zn _ ?_|refine zs _ ?_|refine zd _ ?_|refine zw _ (by kernel_rfl) ?_);conv=>whnf)))
      (focus (refine Or.inl ?_; conv => whnf));refine call_sel (E := fun (x : Bool) => DV.one (D.b x)) h (fun x7 h1 => (l_eqHouse_ok N x4 x6 h1)) (fun x7 hx7 h => ?_)
      (focus ((conv=>whnf);repeat ((first|refine zo _ ?_|refine zr _ rfl ?_|refine zn _ ?_|refine zs _ ?_|refine zd _ ?_|refine zw _ (by kernel_rfl) ?_);conv=>whnf)))
      refine br_sel h (fun _ h => ?_) (fun _ h => ?_)
      · (focus ((conv=>whnf);repeat ((first|refine zo _ ?_|refine zr _ rfl ?_|refine zn _ ?_|refine zs _ ?_|refine zd _ ?_|refine zw _ (by kernel_rfl) ?_);conv=>whnf)))
        obtain rfl := some_in h
        (first|rfl|exact Nat.le_of_ble_eq_true rfl|exact map_snoc _ _ _|exact map_put _ _ _ _|exact map_rep rfl|(simp [sub] <;> rfl))
      · (focus ((conv=>whnf);repeat ((first|refine zo _ ?_|refine zr _ rfl ?_|refine zn _ ?_|refine zs _ ?_|refine zd _ ?_|refine zw _ (by kernel_rfl) ?_);conv=>whnf)))
        obtain rfl := some_in h
        (first|rfl|exact Nat.le_of_ble_eq_true rfl|exact map_snoc _ _ _|exact map_put _ _ _ _|exact map_rep rfl|(simp [sub] <;> rfl))
end Lw
end Go.Proofs
