/- PRINTED BY gen.py (mine): their contracts. -/
import Derived.Test.YtndnhlfdkhcpnaaAvHpFormatFill
namespace Go.Proofs
open Go Go.Av
set_option maxRecDepth 100000
set_option maxHeartbeats 4000000
set_option linter.unusedVariables false
set_option linter.unusedSimpArgs false
namespace Lw
theorem l_szGrid_ok (N : Nat) (v0 : Gx.Grid) (v1 : Int) {r : Int} (h : l_szGrid N v0 v1 = some r) : Pure Try.prog 6 [DV.agg (Gx.Grid.enc v0), DV.one (D.i v1)] (DV.one (D.i r)) := by
  refine pure_of_walk Try.tok Try.mixed Try.func6 (by kernel_rfl) fun W => ?_
  unfold l_szGrid at h
  (focus ((conv=>whnf);repeat ((first|refine zo _ ?_|refine zr _ rfl ?_|refine zn _ ?_|refine zs _ ?_|refine zd _ ?_|refine zw _ (by kernel_rfl) ?_);conv=>whnf)))
  refine len_sel (m := (v0.mCells.length : Int)) (by (first|rfl|simp [sub])) ?_
  (focus ((conv=>whnf);repeat ((first|refine zo _ ?_|refine zr _ rfl ?_|refine zn _ ?_|refine zs _ ?_|refine zd _ ?_|refine zw _ (by kernel_rfl) ?_);conv=>whnf)))
  refine br_sel h (fun _ h => ?_) (fun _ h => ?_)
  · (focus ((conv=>whnf);repeat ((first|refine zo _ ?_|refine zr _ rfl ?_|refine zn _ ?_|refine zs _ ?_|refine zd _ ?_|refine zw _ (by kernel_rfl) ?_);conv=>whnf)))
    obtain rfl := some_in h
    (first|rfl|exact Nat.le_of_ble_eq_true rfl|exact map_snoc _ _ _|exact map_put _ _ _ _|exact map_rep rfl|(simp [sub] <;> rfl))
  · (focus ((conv=>whnf);repeat ((first|refine zo _ ?_|refine zr _ rfl ?_|refine zn _ ?_|refine zs _ ?_|refine zd _ ?_|refine zw _ (by kernel_rfl) ?_);conv=>whnf)))
    obtain rfl := some_in h
    (first|rfl|exact Nat.le_of_ble_eq_true rfl|exact map_snoc _ _ _|exact map_put _ _ _ _|exact map_rep rfl|(simp [sub] <;> rfl))

theorem l_toGrid_ok (N : Nat) (v0 : Gx.Grid) {r : Gx.Grid} (h : l_toGrid N v0 = some r) : Pure Try.prog 8 [DV.agg (Gx.Grid.enc v0)] (DV.agg (Gx.Grid.enc r)) := by
  refine pure_of_walk Try.tok Try.mixed Try.func8 (by kernel_rfl) fun W => ?_
  unfold l_toGrid at h
  (focus ((conv=>whnf);repeat ((first|refine zo _ ?_|refine zr _ rfl ?_|refine zn _ ?_|refine zs _ ?_|refine zd _ ?_|refine zw _ (by kernel_rfl) ?_);conv=>whnf)))
  obtain rfl := some_in h
  (first|rfl|exact Nat.le_of_ble_eq_true rfl|exact map_snoc _ _ _|exact map_put _ _ _ _|exact map_rep rfl|(simp [sub] <;> rfl))

theorem s_l1In_ok (N : Nat) (v0 : Int) (v1 : Int) (v2 : Int) {r : Bool} (h : s_l1In N v0 v1 v2 = some r) : Pure Try.prog 78 [DV.one (D.i v0), DV.one (D.i v1), DV.one (D.i v2)] (DV.one (D.b r)) := by
  refine pure_of_walk Try.tok Try.mixed Try.func78 (by kernel_rfl) fun W => ?_
  unfold s_l1In at h
  (focus ((conv=>whnf);repeat ((first|refine zo _ ?_|refine zr _ rfl ?_|refine zn _ ?_|refine zs _ ?_|refine zd _ ?_|refine zw _ (by kernel_rfl) ?_);conv=>whnf)))
  refine br_sel h (fun _ h => ?_) (fun _ h => ?_)
  · (focus ((conv=>whnf);repeat ((first|refine zo _ ?_|refine zr _ rfl ?_|refine zn _ ?_|refine zs _ ?_|refine zd _ ?_|refine zw _ (by kernel_rfl) ?_);conv=>whnf)))
    obtain rfl := some_in h
    (first|rfl|exact Nat.le_of_ble_eq_true rfl|exact map_snoc _ _ _|exact map_put _ _ _ _|exact map_rep rfl|(simp [sub] <;> rfl))
  · (focus ((conv=>whnf);repeat ((first|refine zo _ ?_|refine zr _ rfl ?_|refine zn _ ?_|refine zs _ ?_|refine zd _ ?_|refine zw _ (by kernel_rfl) ?_);conv=>whnf)))
    obtain rfl := some_in h
    (first|rfl|exact Nat.le_of_ble_eq_true rfl|exact map_snoc _ _ _|exact map_put _ _ _ _|exact map_rep rfl|(simp [sub] <;> rfl))

theorem s_IsGrid_ok (N : Nat) (v0 : Gx.Grid) {r : Bool} (h : s_IsGrid N v0 = some r) : Pure Try.prog 49 [DV.agg (Gx.Grid.enc v0)] (DV.one (D.b r)) := by
  refine pure_of_walk Try.tok Try.mixed Try.func49 (by kernel_rfl) fun W => ?_
  unfold s_IsGrid at h
  (focus ((conv=>whnf);repeat ((first|refine zo _ ?_|refine zr _ rfl ?_|refine zn _ ?_|refine zs _ ?_|refine zd _ ?_|refine zw _ (by kernel_rfl) ?_);conv=>whnf)))
  refine call_sel (E := fun x => DV.one (D.b x)) h (fun x1 h1 => (s_l1In_ok N v0.mRows 2 6 h1)) (fun x1 hx1 h => ?_)
  (focus ((conv=>whnf);repeat ((first|refine zo _ ?_|refine zr _ rfl ?_|refine zn _ ?_|refine zs _ ?_|refine zd _ ?_|refine zw _ (by kernel_rfl) ?_);conv=>whnf)))
  refine br_sel h (fun _ h => ?_) (fun _ h => ?_)
  · (focus ((conv=>whnf);repeat ((first|refine zo _ ?_|refine zr _ rfl ?_|refine zn _ ?_|refine zs _ ?_|refine zd _ ?_|refine zw _ (by kernel_rfl) ?_);conv=>whnf)))
    obtain rfl := some_in h
    (first|rfl|exact Nat.le_of_ble_eq_true rfl|exact map_snoc _ _ _|exact map_put _ _ _ _|exact map_rep rfl|(simp [sub] <;> rfl))
  · (focus ((conv=>whnf);repeat ((first|refine zo _ ?_|refine zr _ rfl ?_|refine zn _ ?_|refine zs _ ?_|refine zd _ ?_|refine zw _ (by kernel_rfl) ?_);conv=>whnf)))
    refine call_sel (E := fun x => DV.one (D.b x)) h (fun x2 h1 => (s_l1In_ok N v0.mCols 2 6 h1)) (fun x2 hx2 h => ?_)
    (focus ((conv=>whnf);repeat ((first|refine zo _ ?_|refine zr _ rfl ?_|refine zn _ ?_|refine zs _ ?_|refine zd _ ?_|refine zw _ (by kernel_rfl) ?_);conv=>whnf)))
    refine br_sel h (fun _ h => ?_) (fun _ h => ?_)
    · (focus ((conv=>whnf);repeat ((first|refine zo _ ?_|refine zr _ rfl ?_|refine zn _ ?_|refine zs _ ?_|refine zd _ ?_|refine zw _ (by kernel_rfl) ?_);conv=>whnf)))
      obtain rfl := some_in h
      (first|rfl|exact Nat.le_of_ble_eq_true rfl|exact map_snoc _ _ _|exact map_put _ _ _ _|exact map_rep rfl|(simp [sub] <;> rfl))
    · (focus ((conv=>whnf);repeat ((first|refine zo _ ?_|refine zr _ rfl ?_|refine zn _ ?_|refine zs _ ?_|refine zd _ ?_|refine zw _ (by kernel_rfl) ?_);conv=>whnf)))
      refine len_sel (m := (v0.mCells.length : Int)) (by (first|rfl|simp [sub])) ?_
      (focus ((conv=>whnf);repeat ((first|refine zo _ ?_|refine zr _ rfl ?_|refine zn _ ?_|refine zs _ ?_|refine zd _ ?_|refine zw _ (by kernel_rfl) ?_);conv=>whnf)))
      refine br_sel h (fun _ h => ?_) (fun _ h => ?_)
      · (focus ((conv=>whnf);repeat ((first|refine zo _ ?_|refine zr _ rfl ?_|refine zn _ ?_|refine zs _ ?_|refine zd _ ?_|refine zw _ (by kernel_rfl) ?_);conv=>whnf)))
        obtain rfl := some_in h
        (first|rfl|exact Nat.le_of_ble_eq_true rfl|exact map_snoc _ _ _|exact map_put _ _ _ _|exact map_rep rfl|(simp [sub] <;> rfl))
      · (focus ((conv=>whnf);repeat ((first|refine zo _ ?_|refine zr _ rfl ?_|refine zn _ ?_|refine zd _ ?_|refine zw _ (by kernel_rfl) ?_);conv=>whnf)))
        obtain ⟨zt3, h, gt3⟩ := cutb_some h
        refine W.r_cut (fun (t3 : Unit) => ⟨[], [], 1000⟩) (fun t => .nx t = zt3) ?_ ?_
        · (focus ((conv=>whnf);repeat ((first|refine zo _ ?_|refine zr _ rfl ?_|refine zn _ ?_|refine zs _ ?_|refine zd _ ?_|refine zw _ (by kernel_rfl) ?_);conv=>whnf)))
          refine loop_lp (fun (p1 : Int) => ⟨[(1, .ptr 1 0 0), (3, .d (D.i p1))], [(1, some (.box [.d (D.i v0.mRows), .d (D.i v0.mCols), .d (D.s v0.mCells)]))], 1000⟩) h ?_ ?_
          · (refine weak_go ?_;(repeat ((conv=>whnf);refine And.intro (by (first|rfl|exact Nat.le_of_ble_eq_true rfl|exact map_snoc _ _ _|exact map_put _ _ _ _|exact map_rep rfl|(simp [sub] <;> rfl))) ?_));(conv=>whnf);exact trivial)
          intro np1 p1 yp1 h hfp1
          unfold s_IsGrid_L1 at h
          (focus ((conv=>whnf);repeat ((first|refine zo _ ?_|refine zr _ rfl ?_|refine zn _ ?_|refine zs _ ?_|refine zd _ ?_|refine zw _ (by kernel_rfl) ?_);conv=>whnf)))
          refine len_sel (m := (v0.mCells.length : Int)) (by (first|rfl|simp [sub])) ?_
          (focus ((conv=>whnf);repeat ((first|refine zo _ ?_|refine zr _ rfl ?_|refine zn _ ?_|refine zs _ ?_|refine zd _ ?_|refine zw _ (by kernel_rfl) ?_);conv=>whnf)))
          refine br_sel h (fun _ h => ?_) (fun _ h => ?_)
          · (focus ((conv=>whnf);repeat ((first|refine zo _ ?_|refine zr _ rfl ?_|refine zn _ ?_|refine zs _ ?_|refine zd _ ?_|refine zw _ (by kernel_rfl) ?_);conv=>whnf)))
            refine chk_sel h (fun q => q) (fun h => ?_)
            (focus ((conv=>whnf);repeat ((first|refine zo _ ?_|refine zr _ rfl ?_|refine zn _ ?_|refine zs _ ?_|refine zd _ ?_|refine zw _ (by kernel_rfl) ?_);conv=>whnf)))
            refine br_sel h (fun _ h => ?_) (fun _ h => ?_)
            · (focus ((conv=>whnf);repeat ((first|refine zo _ ?_|refine zr _ rfl ?_|refine zn _ ?_|refine zs _ ?_|refine zd _ ?_|refine zw _ (by kernel_rfl) ?_);conv=>whnf)))
              refine chk_sel h (fun q => q) (fun h => ?_)
              (focus ((conv=>whnf);repeat ((first|refine zo _ ?_|refine zr _ rfl ?_|refine zn _ ?_|refine zs _ ?_|refine zd _ ?_|refine zw _ (by kernel_rfl) ?_);conv=>whnf)))
              refine br_sel h (fun _ h => ?_) (fun _ h => ?_)
              · (focus ((conv=>whnf);repeat ((first|refine zo _ ?_|refine zr _ rfl ?_|refine zn _ ?_|refine zs _ ?_|refine zd _ ?_|refine zw _ (by kernel_rfl) ?_);conv=>whnf)))
                obtain rfl := some_in h
                have h : some _ = some _ := congrArg some (show _ = _ from hfp1)
                obtain rfl := some_in h
                have h : some _ = some _ := congrArg some (show _ = _ from gt3)
                obtain rfl := some_in h
                (first|rfl|exact Nat.le_of_ble_eq_true rfl|exact map_snoc _ _ _|exact map_put _ _ _ _|exact map_rep rfl|(simp [sub] <;> rfl))
              · (focus ((conv=>whnf);repeat ((first|refine zo _ ?_|refine zr _ rfl ?_|refine zn _ ?_|refine zs _ ?_|refine zd _ ?_|refine zw _ (by kernel_rfl) ?_);conv=>whnf)))
                obtain rfl := some_in h
                refine loop_back hfp1 ?_
                (refine weak_go ?_;(repeat ((conv=>whnf);refine And.intro (by (first|rfl|exact Nat.le_of_ble_eq_true rfl|exact map_snoc _ _ _|exact map_put _ _ _ _|exact map_rep rfl|(simp [sub] <;> rfl))) ?_));(conv=>whnf);exact trivial)
            · (focus ((conv=>whnf);repeat ((first|refine zo _ ?_|refine zr _ rfl ?_|refine zn _ ?_|refine zs _ ?_|refine zd _ ?_|refine zw _ (by kernel_rfl) ?_);conv=>whnf)))
              obtain rfl := some_in h
              refine loop_back hfp1 ?_
              (refine weak_go ?_;(repeat ((conv=>whnf);refine And.intro (by (first|rfl|exact Nat.le_of_ble_eq_true rfl|exact map_snoc _ _ _|exact map_put _ _ _ _|exact map_rep rfl|(simp [sub] <;> rfl))) ?_));(conv=>whnf);exact trivial)
          · (focus ((conv=>whnf);repeat ((first|refine zo _ ?_|refine zr _ rfl ?_|refine zn _ ?_|refine zs _ ?_|refine zd _ ?_|refine zw _ (by kernel_rfl) ?_);conv=>whnf)))
            obtain rfl := some_in h
            have h : some _ = some _ := congrArg some (show _ = _ from hfp1)
            refine cut_at (()) (some_in h) ?_
            (refine weak_go ?_;(repeat ((conv=>whnf);refine And.intro (by (first|rfl|exact Nat.le_of_ble_eq_true rfl|exact map_snoc _ _ _|exact map_put _ _ _ _|exact map_rep rfl|(simp [sub] <;> rfl))) ?_));(conv=>whnf);exact trivial)
        rintro t3 rfl
        have h : _ = some _ := gt3
        (focus ((conv=>whnf);repeat ((first|refine zo _ ?_|refine zr _ rfl ?_|refine zn _ ?_|refine zs _ ?_|refine zd _ ?_|refine zw _ (by kernel_rfl) ?_);conv=>whnf)))
        obtain rfl := some_in h
        (first|rfl|exact Nat.le_of_ble_eq_true rfl|exact map_snoc _ _ _|exact map_put _ _ _ _|exact map_rep rfl|(simp [sub] <;> rfl))

theorem s_IsFill_ok (N : Nat) (v0 : Gx.Grid) (v1 : List UInt8) {r : Bool} (h : s_IsFill N v0 v1 = some r) : Pure Try.prog 17 [DV.agg (Gx.Grid.enc v0), DV.one (D.s v1)] (DV.one (D.b r)) := by
  refine pure_of_walk Try.tok Try.mixed Try.func17 (by kernel_rfl) fun W => ?_
  unfold s_IsFill at h
  (focus ((conv=>whnf);repeat ((first|refine zo _ ?_|refine zr _ rfl ?_|refine zn _ ?_|refine zs _ ?_|refine zd _ ?_|refine zw _ (by kernel_rfl) ?_);conv=>whnf)))
  refine call_sel (E := fun x => DV.one (D.b x)) h (fun x1 h1 => (s_IsGrid_ok N v0 h1)) (fun x1 hx1 h => ?_)
  (focus ((conv=>whnf);repeat ((first|refine zo _ ?_|refine zr _ rfl ?_|refine zn _ ?_|refine zs _ ?_|refine zd _ ?_|refine zw _ (by kernel_rfl) ?_);conv=>whnf)))
  refine br_sel h (fun _ h => ?_) (fun _ h => ?_)
  · (focus ((conv=>whnf);repeat ((first|refine zo _ ?_|refine zr _ rfl ?_|refine zn _ ?_|refine zs _ ?_|refine zd _ ?_|refine zw _ (by kernel_rfl) ?_);conv=>whnf)))
    obtain rfl := some_in h
    (first|rfl|exact Nat.le_of_ble_eq_true rfl|exact map_snoc _ _ _|exact map_put _ _ _ _|exact map_rep rfl|(simp [sub] <;> rfl))
  · (focus ((conv=>whnf);repeat ((first|refine zo _ ?_|refine zr _ rfl ?_|refine zn _ ?_|refine zs _ ?_|refine zd _ ?_|refine zw _ (by kernel_rfl) ?_);conv=>whnf)))
    refine len_sel (m := (v1.length : Int)) (by (first|rfl|simp [sub])) ?_
    (focus ((conv=>whnf);repeat ((first|refine zo _ ?_|refine zr _ rfl ?_|refine zn _ ?_|refine zs _ ?_|refine zd _ ?_|refine zw _ (by kernel_rfl) ?_);conv=>whnf)))
    refine len_sel (m := (v0.mCells.length : Int)) (by (first|rfl|simp [sub])) ?_
    (focus ((conv=>whnf);repeat ((first|refine zo _ ?_|refine zr _ rfl ?_|refine zn _ ?_|refine zs _ ?_|refine zd _ ?_|refine zw _ (by kernel_rfl) ?_);conv=>whnf)))
    refine br_sel h (fun _ h => ?_) (fun _ h => ?_)
    · (focus ((conv=>whnf);repeat ((first|refine zo _ ?_|refine zr _ rfl ?_|refine zn _ ?_|refine zs _ ?_|refine zd _ ?_|refine zw _ (by kernel_rfl) ?_);conv=>whnf)))
      obtain rfl := some_in h
      (first|rfl|exact Nat.le_of_ble_eq_true rfl|exact map_snoc _ _ _|exact map_put _ _ _ _|exact map_rep rfl|(simp [sub] <;> rfl))
    · (focus ((conv=>whnf);repeat ((first|refine zo _ ?_|refine zr _ rfl ?_|refine zn _ ?_|refine zd _ ?_|refine zw _ (by kernel_rfl) ?_);conv=>whnf)))
      obtain ⟨zt3, h, gt3⟩ := cutb_some h
      refine W.r_cut (fun (t3 : Unit) => ⟨[], [], 1000⟩) (fun t => .nx t = zt3) ?_ ?_
      · (focus ((conv=>whnf);repeat ((first|refine zo _ ?_|refine zr _ rfl ?_|refine zn _ ?_|refine zs _ ?_|refine zd _ ?_|refine zw _ (by kernel_rfl) ?_);conv=>whnf)))
        refine loop_lp (fun (p1 : Int) => ⟨[(1, .d (D.s v1)), (2, .ptr 1 0 0), (5, .d (D.i p1))], [(1, some (.box [.d (D.i v0.mRows), .d (D.i v0.mCols), .d (D.s v0.mCells)]))], 1000⟩) h ?_ ?_
        · (refine weak_go ?_;(repeat ((conv=>whnf);refine And.intro (by (first|rfl|exact Nat.le_of_ble_eq_true rfl|exact map_snoc _ _ _|exact map_put _ _ _ _|exact map_rep rfl|(simp [sub] <;> rfl))) ?_));(conv=>whnf);exact trivial)
        intro np1 p1 yp1 h hfp1
        unfold s_IsFill_L1 at h
        (focus ((conv=>whnf);repeat ((first|refine zo _ ?_|refine zr _ rfl ?_|refine zn _ ?_|refine zs _ ?_|refine zd _ ?_|refine zw _ (by kernel_rfl) ?_);conv=>whnf)))
        refine len_sel (m := (v1.length : Int)) (by (first|rfl|simp [sub])) ?_
        (focus ((conv=>whnf);repeat ((first|refine zo _ ?_|refine zr _ rfl ?_|refine zn _ ?_|refine zs _ ?_|refine zd _ ?_|refine zw _ (by kernel_rfl) ?_);conv=>whnf)))
        refine br_sel h (fun _ h => ?_) (fun _ h => ?_)
        · (focus ((conv=>whnf);repeat ((first|refine zo _ ?_|refine zr _ rfl ?_|refine zn _ ?_|refine zd _ ?_|refine zw _ (by kernel_rfl) ?_);conv=>whnf)))
          refine W.r_seq ?_
          (focus ((conv=>whnf);repeat ((first|refine zo _ ?_|refine zr _ rfl ?_|refine zn _ ?_|refine zd _ ?_|refine zw _ (by kernel_rfl) ?_);conv=>whnf)))
          obtain ⟨zt2, h, gt2⟩ := bnd_some h
          refine W.r_cut (fun (t2 : Bool) => ⟨[(1, .d (D.s v1)), (2, .ptr 1 0 0), (5, .d (D.i p1)), (6, .d (D.b t2))], [(1, some (.box [.d (D.i v0.mRows), .d (D.i v0.mCols), .d (D.s v0.mCells)]))], 1000⟩) (fun t => t = zt2) ?_ ?_
          · (focus ((conv=>whnf);repeat ((first|refine zo _ ?_|refine zr _ rfl ?_|refine zn _ ?_|refine zs _ ?_|refine zd _ ?_|refine zw _ (by kernel_rfl) ?_);conv=>whnf)))
            refine chk_sel h (fun q => q) (fun h => ?_)
            (focus ((conv=>whnf);repeat ((first|refine zo _ ?_|refine zr _ rfl ?_|refine zn _ ?_|refine zs _ ?_|refine zd _ ?_|refine zw _ (by kernel_rfl) ?_);conv=>whnf)))
            refine br_sel h (fun _ h => ?_) (fun _ h => ?_)
            · (focus ((conv=>whnf);repeat ((first|refine zo _ ?_|refine zr _ rfl ?_|refine zn _ ?_|refine zs _ ?_|refine zd _ ?_|refine zw _ (by kernel_rfl) ?_);conv=>whnf)))
              refine cut_at (true) (some_in h) ?_
              (refine weak_go ?_;(repeat ((conv=>whnf);refine And.intro (by (first|rfl|exact Nat.le_of_ble_eq_true rfl|exact map_snoc _ _ _|exact map_put _ _ _ _|exact map_rep rfl|(simp [sub] <;> rfl))) ?_));(conv=>whnf);exact trivial)
            · (focus ((conv=>whnf);repeat ((first|refine zo _ ?_|refine zr _ rfl ?_|refine zn _ ?_|refine zs _ ?_|refine zd _ ?_|refine zw _ (by kernel_rfl) ?_);conv=>whnf)))
              refine chk_sel h (fun q => q) (fun h => ?_)
              (focus ((conv=>whnf);repeat ((first|refine zo _ ?_|refine zr _ rfl ?_|refine zn _ ?_|refine zs _ ?_|refine zd _ ?_|refine zw _ (by kernel_rfl) ?_);conv=>whnf)))
              refine br_sel h (fun _ h => ?_) (fun _ h => ?_)
              · (focus ((conv=>whnf);repeat ((first|refine zo _ ?_|refine zr _ rfl ?_|refine zn _ ?_|refine zs _ ?_|refine zd _ ?_|refine zw _ (by kernel_rfl) ?_);conv=>whnf)))
                refine chk_sel h (fun q => q) (fun h => ?_)
                (focus ((conv=>whnf);repeat ((first|refine zo _ ?_|refine zr _ rfl ?_|refine zn _ ?_|refine zs _ ?_|refine zd _ ?_|refine zw _ (by kernel_rfl) ?_);conv=>whnf)))
                refine cut_at (decide ((byteI v1 p1) ≤ 122)) (some_in h) ?_
                (refine weak_go ?_;(repeat ((conv=>whnf);refine And.intro (by (first|rfl|exact Nat.le_of_ble_eq_true rfl|exact map_snoc _ _ _|exact map_put _ _ _ _|exact map_rep rfl|(simp [sub] <;> rfl))) ?_));(conv=>whnf);exact trivial)
              · (focus ((conv=>whnf);repeat ((first|refine zo _ ?_|refine zr _ rfl ?_|refine zn _ ?_|refine zs _ ?_|refine zd _ ?_|refine zw _ (by kernel_rfl) ?_);conv=>whnf)))
                refine cut_at (false) (some_in h) ?_
                (refine weak_go ?_;(repeat ((conv=>whnf);refine And.intro (by (first|rfl|exact Nat.le_of_ble_eq_true rfl|exact map_snoc _ _ _|exact map_put _ _ _ _|exact map_rep rfl|(simp [sub] <;> rfl))) ?_));(conv=>whnf);exact trivial)
          rintro t2 rfl
          have h : _ = some _ := gt2
          (focus ((conv=>whnf);repeat ((first|refine zo _ ?_|refine zr _ rfl ?_|refine zn _ ?_|refine zs _ ?_|refine zd _ ?_|refine zw _ (by kernel_rfl) ?_);conv=>whnf)))
          refine chk_sel h (fun q => q) (fun h => ?_)
          (focus ((conv=>whnf);repeat ((first|refine zo _ ?_|refine zr _ rfl ?_|refine zn _ ?_|refine zs _ ?_|refine zd _ ?_|refine zw _ (by kernel_rfl) ?_);conv=>whnf)))
          refine br_sel h (fun _ h => ?_) (fun _ h => ?_)
          · (focus ((conv=>whnf);repeat ((first|refine zo _ ?_|refine zr _ rfl ?_|refine zn _ ?_|refine zs _ ?_|refine zd _ ?_|refine zw _ (by kernel_rfl) ?_);conv=>whnf)))
            refine chk_sel h (fun q => q) (fun h => ?_)
            (focus ((conv=>whnf);repeat ((first|refine zo _ ?_|refine zr _ rfl ?_|refine zn _ ?_|refine zs _ ?_|refine zd _ ?_|refine zw _ (by kernel_rfl) ?_);conv=>whnf)))
            refine br_sel h (fun _ h => ?_) (fun _ h => ?_)
            · (focus ((conv=>whnf);repeat ((first|refine zo _ ?_|refine zr _ rfl ?_|refine zn _ ?_|refine zs _ ?_|refine zd _ ?_|refine zw _ (by kernel_rfl) ?_);conv=>whnf)))
              obtain rfl := some_in h
              have h : some _ = some _ := congrArg some (show _ = _ from hfp1)
              obtain rfl := some_in h
              have h : some _ = some _ := congrArg some (show _ = _ from gt3)
              obtain rfl := some_in h
              (first|rfl|exact Nat.le_of_ble_eq_true rfl|exact map_snoc _ _ _|exact map_put _ _ _ _|exact map_rep rfl|(simp [sub] <;> rfl))
            · (focus ((conv=>whnf);repeat ((first|refine zo _ ?_|refine zr _ rfl ?_|refine zn _ ?_|refine zs _ ?_|refine zd _ ?_|refine zw _ (by kernel_rfl) ?_);conv=>whnf)))
              refine chk_sel h (fun q => q) (fun h => ?_)
              (focus ((conv=>whnf);repeat ((first|refine zo _ ?_|refine zr _ rfl ?_|refine zn _ ?_|refine zs _ ?_|refine zd _ ?_|refine zw _ (by kernel_rfl) ?_);conv=>whnf)))
              refine br_sel h (fun _ h => ?_) (fun _ h => ?_)
              · (focus ((conv=>whnf);repeat ((first|refine zo _ ?_|refine zr _ rfl ?_|refine zn _ ?_|refine zs _ ?_|refine zd _ ?_|refine zw _ (by kernel_rfl) ?_);conv=>whnf)))
                refine br_sel h (fun _ h => ?_) (fun _ h => ?_)
                · (focus ((conv=>whnf);repeat ((first|refine zo _ ?_|refine zr _ rfl ?_|refine zn _ ?_|refine zs _ ?_|refine zd _ ?_|refine zw _ (by kernel_rfl) ?_);conv=>whnf)))
                  obtain rfl := some_in h
                  have h : some _ = some _ := congrArg some (show _ = _ from hfp1)
                  obtain rfl := some_in h
                  have h : some _ = some _ := congrArg some (show _ = _ from gt3)
                  obtain rfl := some_in h
                  (first|rfl|exact Nat.le_of_ble_eq_true rfl|exact map_snoc _ _ _|exact map_put _ _ _ _|exact map_rep rfl|(simp [sub] <;> rfl))
                · (focus ((conv=>whnf);repeat ((first|refine zo _ ?_|refine zr _ rfl ?_|refine zn _ ?_|refine zs _ ?_|refine zd _ ?_|refine zw _ (by kernel_rfl) ?_);conv=>whnf)))
                  obtain rfl := some_in h
                  refine loop_back hfp1 ?_
                  (refine weak_go ?_;(repeat ((conv=>whnf);refine And.intro (by (first|rfl|exact Nat.le_of_ble_eq_true rfl|exact map_snoc _ _ _|exact map_put _ _ _ _|exact map_rep rfl|(simp [sub] <;> rfl))) ?_));(conv=>whnf);exact trivial)
              · (focus ((conv=>whnf);repeat ((first|refine zo _ ?_|refine zr _ rfl ?_|refine zn _ ?_|refine zs _ ?_|refine zd _ ?_|refine zw _ (by kernel_rfl) ?_);conv=>whnf)))
                obtain rfl := some_in h
                refine loop_back hfp1 ?_
                (refine weak_go ?_;(repeat ((conv=>whnf);refine And.intro (by (first|rfl|exact Nat.le_of_ble_eq_true rfl|exact map_snoc _ _ _|exact map_put _ _ _ _|exact map_rep rfl|(simp [sub] <;> rfl))) ?_));(conv=>whnf);exact trivial)
          · (focus ((conv=>whnf);repeat ((first|refine zo _ ?_|refine zr _ rfl ?_|refine zn _ ?_|refine zs _ ?_|refine zd _ ?_|refine zw _ (by kernel_rfl) ?_);conv=>whnf)))
            refine chk_sel h (fun q => q) (fun h => ?_)
            (focus ((conv=>whnf);repeat ((first|refine zo _ ?_|refine zr _ rfl ?_|refine zn _ ?_|refine zs _ ?_|refine zd _ ?_|refine zw _ (by kernel_rfl) ?_);conv=>whnf)))
            refine br_sel h (fun _ h => ?_) (fun _ h => ?_)
            · (focus ((conv=>whnf);repeat ((first|refine zo _ ?_|refine zr _ rfl ?_|refine zn _ ?_|refine zs _ ?_|refine zd _ ?_|refine zw _ (by kernel_rfl) ?_);conv=>whnf)))
              refine br_sel h (fun _ h => ?_) (fun _ h => ?_)
              · (focus ((conv=>whnf);repeat ((first|refine zo _ ?_|refine zr _ rfl ?_|refine zn _ ?_|refine zs _ ?_|refine zd _ ?_|refine zw _ (by kernel_rfl) ?_);conv=>whnf)))
                obtain rfl := some_in h
                have h : some _ = some _ := congrArg some (show _ = _ from hfp1)
                obtain rfl := some_in h
                have h : some _ = some _ := congrArg some (show _ = _ from gt3)
                obtain rfl := some_in h
                (first|rfl|exact Nat.le_of_ble_eq_true rfl|exact map_snoc _ _ _|exact map_put _ _ _ _|exact map_rep rfl|(simp [sub] <;> rfl))
              · (focus ((conv=>whnf);repeat ((first|refine zo _ ?_|refine zr _ rfl ?_|refine zn _ ?_|refine zs _ ?_|refine zd _ ?_|refine zw _ (by kernel_rfl) ?_);conv=>whnf)))
                obtain rfl := some_in h
                refine loop_back hfp1 ?_
                (refine weak_go ?_;(repeat ((conv=>whnf);refine And.intro (by (first|rfl|exact Nat.le_of_ble_eq_true rfl|exact map_snoc _ _ _|exact map_put _ _ _ _|exact map_rep rfl|(simp [sub] <;> rfl))) ?_));(conv=>whnf);exact trivial)
            · (focus ((conv=>whnf);repeat ((first|refine zo _ ?_|refine zr _ rfl ?_|refine zn _ ?_|refine zs _ ?_|refine zd _ ?_|refine zw _ (by kernel_rfl) ?_);conv=>whnf)))
              obtain rfl := some_in h
              refine loop_back hfp1 ?_
              (refine weak_go ?_;(repeat ((conv=>whnf);refine And.intro (by (first|rfl|exact Nat.le_of_ble_eq_true rfl|exact map_snoc _ _ _|exact map_put _ _ _ _|exact map_rep rfl|(simp [sub] <;> rfl))) ?_));(conv=>whnf);exact trivial)
        · (focus ((conv=>whnf);repeat ((first|refine zo _ ?_|refine zr _ rfl ?_|refine zn _ ?_|refine zs _ ?_|refine zd _ ?_|refine zw _ (by kernel_rfl) ?_);conv=>whnf)))
          obtain rfl := some_in h
          have h : some _ = some _ := congrArg some (show _ = _ from hfp1)
          refine cut_at (()) (some_in h) ?_
          (refine weak_go ?_;(repeat ((conv=>whnf);refine And.intro (by (first|rfl|exact Nat.le_of_ble_eq_true rfl|exact map_snoc _ _ _|exact map_put _ _ _ _|exact map_rep rfl|(simp [sub] <;> rfl))) ?_));(conv=>whnf);exact trivial)
      rintro t3 rfl
      have h : _ = some _ := gt3
      (focus ((conv=>whnf);repeat ((first|refine zo _ ?_|refine zr _ rfl ?_|refine zn _ ?_|refine zs _ ?_|refine zd _ ?_|refine zw _ (by kernel_rfl) ?_);conv=>whnf)))
      obtain rfl := some_in h
      (first|rfl|exact Nat.le_of_ble_eq_true rfl|exact map_snoc _ _ _|exact map_put _ _ _ _|exact map_rep rfl|(simp [sub] <;> rfl))

theorem s_l39Join_ok (N : Nat) (v0 : List (List UInt8)) (v1 : List UInt8) {r : (List UInt8)} (h : s_l39Join N v0 v1 = some r) : Pure Try.prog 18 [DV.one (D.sl 1 (List.map Gx.encS v0)), DV.one (D.s v1)] (DV.one (D.s r)) := by
  refine pure_of_walk Try.tok Try.mixed Try.func18 (by kernel_rfl) fun W => ?_
  unfold s_l39Join at h
  (focus ((conv=>whnf);repeat ((first|refine zo _ ?_|refine zr _ rfl ?_|refine zn _ ?_|refine zd _ ?_|refine zw _ (by kernel_rfl) ?_);conv=>whnf)))
  refine W.r_seq ?_
  (focus ((conv=>whnf);repeat ((first|refine zo _ ?_|refine zr _ rfl ?_|refine zn _ ?_|refine zd _ ?_|refine zw _ (by kernel_rfl) ?_);conv=>whnf)))
  refine W.r_seq ?_
  (focus ((conv=>whnf);repeat ((first|refine zo _ ?_|refine zr _ rfl ?_|refine zn _ ?_|refine zd _ ?_|refine zw _ (by kernel_rfl) ?_);conv=>whnf)))
  obtain ⟨zt3, h, gt3⟩ := bnd_some h
  refine W.r_cut (fun (t3 : (List UInt8)) => ⟨[(0, .d (D.sl 1 (List.map Gx.encS v0))), (5, .d (D.s t3))], [], 1000⟩) (fun t => t = zt3) ?_ ?_
  · (focus ((conv=>whnf);repeat ((first|refine zo _ ?_|refine zr _ rfl ?_|refine zn _ ?_|refine zs _ ?_|refine zd _ ?_|refine zw _ (by kernel_rfl) ?_);conv=>whnf)))
    refine loop_lp (fun (p1 : (List UInt8) × Int) => ⟨[(0, .d (D.sl 1 (List.map Gx.encS v0))), (1, .d (D.s v1)), (5, .d (D.s p1.1)), (6, .d (D.i p1.2))], [], 1000⟩) h ?_ ?_
    · (refine weak_go ?_;(repeat ((conv=>whnf);refine And.intro (by (first|rfl|exact Nat.le_of_ble_eq_true rfl|exact map_snoc _ _ _|exact map_put _ _ _ _|exact map_rep rfl|(simp [sub] <;> rfl))) ?_));(conv=>whnf);exact trivial)
    intro np1 p1 yp1 h hfp1
    unfold s_l39Join_L1 at h
    (focus ((conv=>whnf);repeat ((first|refine zo _ ?_|refine zr _ rfl ?_|refine zn _ ?_|refine zs _ ?_|refine zd _ ?_|refine zw _ (by kernel_rfl) ?_);conv=>whnf)))
    refine len_sel (m := (v0.length : Int)) (by (first|rfl|simp [sub])) ?_
    (focus ((conv=>whnf);repeat ((first|refine zo _ ?_|refine zr _ rfl ?_|refine zn _ ?_|refine zs _ ?_|refine zd _ ?_|refine zw _ (by kernel_rfl) ?_);conv=>whnf)))
    refine br_sel h (fun _ h => ?_) (fun _ h => ?_)
    · (focus ((conv=>whnf);repeat ((first|refine zo _ ?_|refine zr _ rfl ?_|refine zn _ ?_|refine zd _ ?_|refine zw _ (by kernel_rfl) ?_);conv=>whnf)))
      refine W.r_seq ?_
      (focus ((conv=>whnf);repeat ((first|refine zo _ ?_|refine zr _ rfl ?_|refine zn _ ?_|refine zd _ ?_|refine zw _ (by kernel_rfl) ?_);conv=>whnf)))
      obtain ⟨zt1, h, gt1⟩ := bnd_some h
      refine W.r_cut (fun (t1 : (List UInt8)) => ⟨[(0, .d (D.sl 1 (List.map Gx.encS v0))), (1, .d (D.s v1)), (5, .d (D.s t1)), (6, .d (D.i p1.2))], [], 1000⟩) (fun t => t = zt1) ?_ ?_
      · (focus ((conv=>whnf);repeat ((first|refine zo _ ?_|refine zr _ rfl ?_|refine zn _ ?_|refine zs _ ?_|refine zd _ ?_|refine zw _ (by kernel_rfl) ?_);conv=>whnf)))
        refine br_sel h (fun _ h => ?_) (fun _ h => ?_)
        · (focus ((conv=>whnf);repeat ((first|refine zo _ ?_|refine zr _ rfl ?_|refine zn _ ?_|refine zs _ ?_|refine zd _ ?_|refine zw _ (by kernel_rfl) ?_);conv=>whnf)))
          refine chk_sel h (fun q => Nat.le_trans q (by decide)) (fun h => ?_)
          (focus ((conv=>whnf);repeat ((first|refine zo _ ?_|refine zr _ rfl ?_|refine zn _ ?_|refine zs _ ?_|refine zd _ ?_|refine zw _ (by kernel_rfl) ?_);conv=>whnf)))
          refine cut_at (p1.1 ++ v1) (some_in h) ?_
          (refine weak_go ?_;(repeat ((conv=>whnf);refine And.intro (by (first|rfl|exact Nat.le_of_ble_eq_true rfl|exact map_snoc _ _ _|exact map_put _ _ _ _|exact map_rep rfl|(simp [sub] <;> rfl))) ?_));(conv=>whnf);exact trivial)
        · (focus ((conv=>whnf);repeat ((first|refine zo _ ?_|refine zr _ rfl ?_|refine zn _ ?_|refine zs _ ?_|refine zd _ ?_|refine zw _ (by kernel_rfl) ?_);conv=>whnf)))
          refine cut_at (p1.1) (some_in h) ?_
          (refine weak_go ?_;(repeat ((conv=>whnf);refine And.intro (by (first|rfl|exact Nat.le_of_ble_eq_true rfl|exact map_snoc _ _ _|exact map_put _ _ _ _|exact map_rep rfl|(simp [sub] <;> rfl))) ?_));(conv=>whnf);exact trivial)
      rintro t1 rfl
      have h : _ = some _ := gt1
      (focus ((conv=>whnf);repeat ((first|refine zo _ ?_|refine zr _ rfl ?_|refine zn _ ?_|refine zs _ ?_|refine zd _ ?_|refine zw _ (by kernel_rfl) ?_);conv=>whnf)))
      refine idx_sel h (fun x2 hx2 h => ?_)
      (focus ((conv=>whnf);repeat ((first|refine zo _ ?_|refine zr _ rfl ?_|refine zn _ ?_|refine zs _ ?_|refine zd _ ?_|refine zw _ (by kernel_rfl) ?_);conv=>whnf)))
      refine chk_sel h (fun q => Nat.le_trans q (by decide)) (fun h => ?_)
      (focus ((conv=>whnf);repeat ((first|refine zo _ ?_|refine zr _ rfl ?_|refine zn _ ?_|refine zs _ ?_|refine zd _ ?_|refine zw _ (by kernel_rfl) ?_);conv=>whnf)))
      obtain rfl := some_in h
      refine loop_back hfp1 ?_
      (refine weak_go ?_;(repeat ((conv=>whnf);refine And.intro (by (first|rfl|exact Nat.le_of_ble_eq_true rfl|exact map_snoc _ _ _|exact map_put _ _ _ _|exact map_rep rfl|(simp [sub] <;> rfl))) ?_));(conv=>whnf);exact trivial)
    · (focus ((conv=>whnf);repeat ((first|refine zo _ ?_|refine zr _ rfl ?_|refine zn _ ?_|refine zs _ ?_|refine zd _ ?_|refine zw _ (by kernel_rfl) ?_);conv=>whnf)))
      obtain rfl := some_in h
      have h : some _ = some _ := congrArg some (show _ = _ from hfp1)
      refine cut_at (p1.1) (some_in h) ?_
      (refine weak_go ?_;(repeat ((conv=>whnf);refine And.intro (by (first|rfl|exact Nat.le_of_ble_eq_true rfl|exact map_snoc _ _ _|exact map_put _ _ _ _|exact map_rep rfl|(simp [sub] <;> rfl))) ?_));(conv=>whnf);exact trivial)
  rintro t3 rfl
  have h : _ = some _ := gt3
  (focus ((conv=>whnf);repeat ((first|refine zo _ ?_|refine zr _ rfl ?_|refine zn _ ?_|refine zs _ ?_|refine zd _ ?_|refine zw _ (by kernel_rfl) ?_);conv=>whnf)))
  refine len_sel (m := (v0.length : Int)) (by (first|rfl|simp [sub])) ?_
  (focus ((conv=>whnf);repeat ((first|refine zo _ ?_|refine zr _ rfl ?_|refine zn _ ?_|refine zs _ ?_|refine zd _ ?_|refine zw _ (by kernel_rfl) ?_);conv=>whnf)))
  refine br_sel h (fun _ h => ?_) (fun _ h => ?_)
  · (focus ((conv=>whnf);repeat ((first|refine zo _ ?_|refine zr _ rfl ?_|refine zn _ ?_|refine zs _ ?_|refine zd _ ?_|refine zw _ (by kernel_rfl) ?_);conv=>whnf)))
    obtain rfl := some_in h
    (first|rfl|exact Nat.le_of_ble_eq_true rfl|exact map_snoc _ _ _|exact map_put _ _ _ _|exact map_rep rfl|(simp [sub] <;> rfl))
  · (focus ((conv=>whnf);repeat ((first|refine zo _ ?_|refine zr _ rfl ?_|refine zn _ ?_|refine zs _ ?_|refine zd _ ?_|refine zw _ (by kernel_rfl) ?_);conv=>whnf)))
    obtain rfl := some_in h
    (first|rfl|exact Nat.le_of_ble_eq_true rfl|exact map_snoc _ _ _|exact map_put _ _ _ _|exact map_rep rfl|(simp [sub] <;> rfl))

theorem s_FormatFill_ok (N : Nat) (v0 : Gx.Grid) (v1 : List UInt8) {r : (List UInt8)} (h : s_FormatFill N v0 v1 = some r) : Pure Try.prog 7 [DV.agg (Gx.Grid.enc v0), DV.one (D.s v1)] (DV.one (D.s r)) := by
  refine pure_of_walk Try.tok Try.mixed Try.func7 (by kernel_rfl) fun W => ?_
  unfold s_FormatFill at h
  (focus ((conv=>whnf);repeat ((first|refine zo _ ?_|refine zr _ rfl ?_|refine zn _ ?_|refine zs _ ?_|refine zd _ ?_|refine zw _ (by kernel_rfl) ?_);conv=>whnf)))
  refine call_sel (E := fun x => DV.one (D.b x)) h (fun x1 h1 => (s_IsFill_ok N v0 v1 h1)) (fun x1 hx1 h => ?_)
  (focus ((conv=>whnf);repeat ((first|refine zo _ ?_|refine zr _ rfl ?_|refine zn _ ?_|refine zs _ ?_|refine zd _ ?_|refine zw _ (by kernel_rfl) ?_);conv=>whnf)))
  refine br_sel h (fun _ h => ?_) (fun _ h => ?_)
  · (focus ((conv=>whnf);repeat ((first|refine zo _ ?_|refine zr _ rfl ?_|refine zn _ ?_|refine zs _ ?_|refine zd _ ?_|refine zw _ (by kernel_rfl) ?_);conv=>whnf)))
    obtain rfl := some_in h
    (first|rfl|exact Nat.le_of_ble_eq_true rfl|exact map_snoc _ _ _|exact map_put _ _ _ _|exact map_rep rfl|(simp [sub] <;> rfl))
  · (focus ((conv=>whnf);repeat ((first|refine zo _ ?_|refine zr _ rfl ?_|refine zn _ ?_|refine zd _ ?_|refine zw _ (by kernel_rfl) ?_);conv=>whnf)))
    refine W.r_seq ?_
    (focus ((conv=>whnf);repeat ((first|refine zo _ ?_|refine zr _ rfl ?_|refine zn _ ?_|refine zd _ ?_|refine zw _ (by kernel_rfl) ?_);conv=>whnf)))
    obtain ⟨zt2, h, gt2⟩ := bnd_some h
    refine W.r_cut (fun (t2 : (List (List UInt8))) => ⟨[(5, .sl 1)], [(1, some (.arr 1 (List.map Gx.encS t2) true))], 1000⟩) (fun t => t = zt2) ?_ ?_
    · (focus ((conv=>whnf);repeat ((first|refine zo _ ?_|refine zr _ rfl ?_|refine zn _ ?_|refine zs _ ?_|refine zd _ ?_|refine zw _ (by kernel_rfl) ?_);conv=>whnf)))
      refine loop_lp (fun (p1 : (List (List UInt8)) × Int) => ⟨[(1, .d (D.s v1)), (2, .ptr 1 0 0), (5, .sl 2), (6, .d (D.i p1.2))], [(1, some (.box [.d (D.i v0.mRows), .d (D.i v0.mCols), .d (D.s v0.mCells)])), (2, some (.arr 1 (List.map Gx.encS p1.1) true))], 1000⟩) h ?_ ?_
      · (refine weak_go ?_;(repeat ((conv=>whnf);refine And.intro (by (first|rfl|exact Nat.le_of_ble_eq_true rfl|exact map_snoc _ _ _|exact map_put _ _ _ _|exact map_rep rfl|(simp [sub] <;> rfl))) ?_));(conv=>whnf);exact trivial)
      intro np1 p1 yp1 h hfp1
      unfold s_FormatFill_L1 at h
      (focus ((conv=>whnf);repeat ((first|refine zo _ ?_|refine zr _ rfl ?_|refine zn _ ?_|refine zs _ ?_|refine zd _ ?_|refine zw _ (by kernel_rfl) ?_);conv=>whnf)))
      refine br_sel h (fun _ h => ?_) (fun _ h => ?_)
      · (focus ((conv=>whnf);repeat ((first|refine zo _ ?_|refine zr _ rfl ?_|refine zn _ ?_|refine zs _ ?_|refine zd _ ?_|refine zw _ (by kernel_rfl) ?_);conv=>whnf)))
        refine chk_sel h (fun q => q) (fun h => ?_)
        (focus ((conv=>whnf);repeat ((first|refine zo _ ?_|refine zr _ rfl ?_|refine zn _ ?_|refine zs _ ?_|refine zd _ ?_|refine zw _ (by kernel_rfl) ?_);conv=>whnf)))
        refine app_sel h (app_ok (by (first|rfl|simp [sub])) (by (first|rfl|simp [sub])) (by decide)) (by (intro h; cases h)) (fun h => ?_)
        (focus ((conv=>whnf);repeat ((first|refine zo _ ?_|refine zr _ rfl ?_|refine zn _ ?_|refine zs _ ?_|refine zd _ ?_|refine zw _ (by kernel_rfl) ?_);conv=>whnf)))
        obtain rfl := some_in h
        refine loop_back hfp1 ?_
        (refine weak_go ?_;(repeat ((conv=>whnf);refine And.intro (by (first|rfl|exact Nat.le_of_ble_eq_true rfl|exact map_snoc _ _ _|exact map_put _ _ _ _|exact map_rep rfl|(simp [sub] <;> rfl))) ?_));(conv=>whnf);exact trivial)
      · (focus ((conv=>whnf);repeat ((first|refine zo _ ?_|refine zr _ rfl ?_|refine zn _ ?_|refine zs _ ?_|refine zd _ ?_|refine zw _ (by kernel_rfl) ?_);conv=>whnf)))
        obtain rfl := some_in h
        have h : some _ = some _ := congrArg some (show _ = _ from hfp1)
        refine cut_at (p1.1) (some_in h) ?_
        (refine weak_go ?_;(repeat ((conv=>whnf);refine And.intro (by (first|rfl|exact Nat.le_of_ble_eq_true rfl|exact map_snoc _ _ _|exact map_put _ _ _ _|exact map_rep rfl|(simp [sub] <;> rfl))) ?_));(conv=>whnf);exact trivial)
    rintro t2 rfl
    have h : _ = some _ := gt2
    (focus ((conv=>whnf);repeat ((first|refine zo _ ?_|refine zr _ rfl ?_|refine zn _ ?_|refine zs _ ?_|refine zd _ ?_|refine zw _ (by kernel_rfl) ?_);conv=>whnf)))
    refine call_sel (E := fun x => DV.one (D.s x)) h (fun x3 h1 => (s_l39Join_ok N t2 ([47] : List UInt8) h1)) (fun x3 hx3 h => ?_)
    (focus ((conv=>whnf);repeat ((first|refine zo _ ?_|refine zr _ rfl ?_|refine zn _ ?_|refine zs _ ?_|refine zd _ ?_|refine zw _ (by kernel_rfl) ?_);conv=>whnf)))
    obtain rfl := some_in h
    (first|rfl|exact Nat.le_of_ble_eq_true rfl|exact map_snoc _ _ _|exact map_put _ _ _ _|exact map_rep rfl|(simp [sub] <;> rfl))

theorem i_InRange_ok (N : Nat) (v0 : Int) (v1 : Int) (v2 : Int) {r : Bool} (h : i_InRange N v0 v1 v2 = some r) : Pure Try.prog 79 [DV.one (D.i v0), DV.one (D.i v1), DV.one (D.i v2)] (DV.one (D.b r)) := by
  refine pure_of_walk Try.tok Try.mixed Try.func79 (by kernel_rfl) fun W => ?_
  unfold i_InRange at h
  (focus ((conv=>whnf);repeat ((first|refine zo _ ?_|refine zr _ rfl ?_|refine zn _ ?_|refine zs _ ?_|refine zd _ ?_|refine zw _ (by kernel_rfl) ?_);conv=>whnf)))
  refine br_sel h (fun _ h => ?_) (fun _ h => ?_)
  · (focus ((conv=>whnf);repeat ((first|refine zo _ ?_|refine zr _ rfl ?_|refine zn _ ?_|refine zs _ ?_|refine zd _ ?_|refine zw _ (by kernel_rfl) ?_);conv=>whnf)))
    obtain rfl := some_in h
    (first|rfl|exact Nat.le_of_ble_eq_true rfl|exact map_snoc _ _ _|exact map_put _ _ _ _|exact map_rep rfl|(simp [sub] <;> rfl))
  · (focus ((conv=>whnf);repeat ((first|refine zo _ ?_|refine zr _ rfl ?_|refine zn _ ?_|refine zs _ ?_|refine zd _ ?_|refine zw _ (by kernel_rfl) ?_);conv=>whnf)))
    obtain rfl := some_in h
    (first|rfl|exact Nat.le_of_ble_eq_true rfl|exact map_snoc _ _ _|exact map_put _ _ _ _|exact map_rep rfl|(simp [sub] <;> rfl))

theorem i_IsGrid_ok (N : Nat) (v0 : Gx.Grid) {r : Bool} (h : i_IsGrid N v0 = some r) : Pure Try.prog 50 [DV.agg (Gx.Grid.enc v0)] (DV.one (D.b r)) := by
  refine pure_of_walk Try.tok Try.mixed Try.func50 (by kernel_rfl) fun W => ?_
  unfold i_IsGrid at h
  (focus ((conv=>whnf);repeat ((first|refine zo _ ?_|refine zr _ rfl ?_|refine zn _ ?_|refine zs _ ?_|refine zd _ ?_|refine zw _ (by kernel_rfl) ?_);conv=>whnf)))
  refine call_sel (E := fun x => DV.one (D.b x)) h (fun x1 h1 => (i_InRange_ok N v0.mRows 2 6 h1)) (fun x1 hx1 h => ?_)
  (focus ((conv=>whnf);repeat ((first|refine zo _ ?_|refine zr _ rfl ?_|refine zn _ ?_|refine zs _ ?_|refine zd _ ?_|refine zw _ (by kernel_rfl) ?_);conv=>whnf)))
  refine br_sel h (fun _ h => ?_) (fun _ h => ?_)
  · (focus ((conv=>whnf);repeat ((first|refine zo _ ?_|refine zr _ rfl ?_|refine zn _ ?_|refine zs _ ?_|refine zd _ ?_|refine zw _ (by kernel_rfl) ?_);conv=>whnf)))
    obtain rfl := some_in h
    (first|rfl|exact Nat.le_of_ble_eq_true rfl|exact map_snoc _ _ _|exact map_put _ _ _ _|exact map_rep rfl|(simp [sub] <;> rfl))
  · (focus ((conv=>whnf);repeat ((first|refine zo _ ?_|refine zr _ rfl ?_|refine zn _ ?_|refine zs _ ?_|refine zd _ ?_|refine zw _ (by kernel_rfl) ?_);conv=>whnf)))
    refine call_sel (E := fun x => DV.one (D.b x)) h (fun x2 h1 => (i_InRange_ok N v0.mCols 2 6 h1)) (fun x2 hx2 h => ?_)
    (focus ((conv=>whnf);repeat ((first|refine zo _ ?_|refine zr _ rfl ?_|refine zn _ ?_|refine zs _ ?_|refine zd _ ?_|refine zw _ (by kernel_rfl) ?_);conv=>whnf)))
    refine br_sel h (fun _ h => ?_) (fun _ h => ?_)
    · (focus ((conv=>whnf);repeat ((first|refine zo _ ?_|refine zr _ rfl ?_|refine zn _ ?_|refine zs _ ?_|refine zd _ ?_|refine zw _ (by kernel_rfl) ?_);conv=>whnf)))
      obtain rfl := some_in h
      (first|rfl|exact Nat.le_of_ble_eq_true rfl|exact map_snoc _ _ _|exact map_put _ _ _ _|exact map_rep rfl|(simp [sub] <;> rfl))
    · (focus ((conv=>whnf);repeat ((first|refine zo _ ?_|refine zr _ rfl ?_|refine zn _ ?_|refine zs _ ?_|refine zd _ ?_|refine zw _ (by kernel_rfl) ?_);conv=>whnf)))
      refine len_sel (m := (v0.mCells.length : Int)) (by (first|rfl|simp [sub])) ?_
      (focus ((conv=>whnf);repeat ((first|refine zo _ ?_|refine zr _ rfl ?_|refine zn _ ?_|refine zs _ ?_|refine zd _ ?_|refine zw _ (by kernel_rfl) ?_);conv=>whnf)))
      refine br_sel h (fun _ h => ?_) (fun _ h => ?_)
      · (focus ((conv=>whnf);repeat ((first|refine zo _ ?_|refine zr _ rfl ?_|refine zn _ ?_|refine zs _ ?_|refine zd _ ?_|refine zw _ (by kernel_rfl) ?_);conv=>whnf)))
        obtain rfl := some_in h
        (first|rfl|exact Nat.le_of_ble_eq_true rfl|exact map_snoc _ _ _|exact map_put _ _ _ _|exact map_rep rfl|(simp [sub] <;> rfl))
      · (focus ((conv=>whnf);repeat ((first|refine zo _ ?_|refine zr _ rfl ?_|refine zn _ ?_|refine zd _ ?_|refine zw _ (by kernel_rfl) ?_);conv=>whnf)))
        obtain ⟨zt3, h, gt3⟩ := cutb_some h
        refine W.r_cut (fun (t3 : Unit) => ⟨[], [], 1000⟩) (fun t => .nx t = zt3) ?_ ?_
        · (focus ((conv=>whnf);repeat ((first|refine zo _ ?_|refine zr _ rfl ?_|refine zn _ ?_|refine zs _ ?_|refine zd _ ?_|refine zw _ (by kernel_rfl) ?_);conv=>whnf)))
          refine len_sel (m := (v0.mCells.length : Int)) (by (first|rfl|simp [sub])) ?_
          (focus ((conv=>whnf);repeat ((first|refine zo _ ?_|refine zr _ rfl ?_|refine zn _ ?_|refine zs _ ?_|refine zd _ ?_|refine zw _ (by kernel_rfl) ?_);conv=>whnf)))
          refine loop_lp (fun (p1 : Int) => ⟨[(1, .ptr 1 0 0), (27, .d (D.i (v0.mCells.length : Int))), (28, .d (D.i p1))], [(1, some (.box [.d (D.i v0.mRows), .d (D.i v0.mCols), .d (D.s v0.mCells)]))], 1000⟩) h ?_ ?_
          · (refine weak_go ?_;(repeat ((conv=>whnf);refine And.intro (by (first|rfl|exact Nat.le_of_ble_eq_true rfl|exact map_snoc _ _ _|exact map_put _ _ _ _|exact map_rep rfl|(simp [sub] <;> rfl))) ?_));(conv=>whnf);exact trivial)
          intro np1 p1 yp1 h hfp1
          unfold i_IsGrid_L1 at h
          (focus ((conv=>whnf);repeat ((first|refine zo _ ?_|refine zr _ rfl ?_|refine zn _ ?_|refine zs _ ?_|refine zd _ ?_|refine zw _ (by kernel_rfl) ?_);conv=>whnf)))
          refine br_sel h (fun _ h => ?_) (fun _ h => ?_)
          · (focus ((conv=>whnf);repeat ((first|refine zo _ ?_|refine zr _ rfl ?_|refine zn _ ?_|refine zs _ ?_|refine zd _ ?_|refine zw _ (by kernel_rfl) ?_);conv=>whnf)))
            refine chk_sel h (fun q => q) (fun h => ?_)
            (focus ((conv=>whnf);repeat ((first|refine zo _ ?_|refine zr _ rfl ?_|refine zn _ ?_|refine zs _ ?_|refine zd _ ?_|refine zw _ (by kernel_rfl) ?_);conv=>whnf)))
            refine br_sel h (fun _ h => ?_) (fun _ h => ?_)
            · (focus ((conv=>whnf);repeat ((first|refine zo _ ?_|refine zr _ rfl ?_|refine zn _ ?_|refine zs _ ?_|refine zd _ ?_|refine zw _ (by kernel_rfl) ?_);conv=>whnf)))
              refine chk_sel h (fun q => q) (fun h => ?_)
              (focus ((conv=>whnf);repeat ((first|refine zo _ ?_|refine zr _ rfl ?_|refine zn _ ?_|refine zs _ ?_|refine zd _ ?_|refine zw _ (by kernel_rfl) ?_);conv=>whnf)))
              refine br_sel h (fun _ h => ?_) (fun _ h => ?_)
              · (focus ((conv=>whnf);repeat ((first|refine zo _ ?_|refine zr _ rfl ?_|refine zn _ ?_|refine zs _ ?_|refine zd _ ?_|refine zw _ (by kernel_rfl) ?_);conv=>whnf)))
                obtain rfl := some_in h
                have h : some _ = some _ := congrArg some (show _ = _ from hfp1)
                obtain rfl := some_in h
                have h : some _ = some _ := congrArg some (show _ = _ from gt3)
                obtain rfl := some_in h
                (first|rfl|exact Nat.le_of_ble_eq_true rfl|exact map_snoc _ _ _|exact map_put _ _ _ _|exact map_rep rfl|(simp [sub] <;> rfl))
              · (focus ((conv=>whnf);repeat ((first|refine zo _ ?_|refine zr _ rfl ?_|refine zn _ ?_|refine zs _ ?_|refine zd _ ?_|refine zw _ (by kernel_rfl) ?_);conv=>whnf)))
                obtain rfl := some_in h
                refine loop_back hfp1 ?_
                (refine weak_go ?_;(repeat ((conv=>whnf);refine And.intro (by (first|rfl|exact Nat.le_of_ble_eq_true rfl|exact map_snoc _ _ _|exact map_put _ _ _ _|exact map_rep rfl|(simp [sub] <;> rfl))) ?_));(conv=>whnf);exact trivial)
            · (focus ((conv=>whnf);repeat ((first|refine zo _ ?_|refine zr _ rfl ?_|refine zn _ ?_|refine zs _ ?_|refine zd _ ?_|refine zw _ (by kernel_rfl) ?_);conv=>whnf)))
              obtain rfl := some_in h
              refine loop_back hfp1 ?_
              (refine weak_go ?_;(repeat ((conv=>whnf);refine And.intro (by (first|rfl|exact Nat.le_of_ble_eq_true rfl|exact map_snoc _ _ _|exact map_put _ _ _ _|exact map_rep rfl|(simp [sub] <;> rfl))) ?_));(conv=>whnf);exact trivial)
          · (focus ((conv=>whnf);repeat ((first|refine zo _ ?_|refine zr _ rfl ?_|refine zn _ ?_|refine zs _ ?_|refine zd _ ?_|refine zw _ (by kernel_rfl) ?_);conv=>whnf)))
            obtain rfl := some_in h
            have h : some _ = some _ := congrArg some (show _ = _ from hfp1)
            refine cut_at (()) (some_in h) ?_
            (refine weak_go ?_;(repeat ((conv=>whnf);refine And.intro (by (first|rfl|exact Nat.le_of_ble_eq_true rfl|exact map_snoc _ _ _|exact map_put _ _ _ _|exact map_rep rfl|(simp [sub] <;> rfl))) ?_));(conv=>whnf);exact trivial)
        rintro t3 rfl
        have h : _ = some _ := gt3
        (focus ((conv=>whnf);repeat ((first|refine zo _ ?_|refine zr _ rfl ?_|refine zn _ ?_|refine zs _ ?_|refine zd _ ?_|refine zw _ (by kernel_rfl) ?_);conv=>whnf)))
        obtain rfl := some_in h
        (first|rfl|exact Nat.le_of_ble_eq_true rfl|exact map_snoc _ _ _|exact map_put _ _ _ _|exact map_rep rfl|(simp [sub] <;> rfl))

theorem i_isLetter_ok (N : Nat) (v0 : Int) {r : Bool} (h : i_isLetter N v0 = some r) : Pure Try.prog 51 [DV.one (D.u8 v0)] (DV.one (D.b r)) := by
  refine pure_of_walk Try.tok Try.mixed Try.func51 (by kernel_rfl) fun W => ?_
  unfold i_isLetter at h
  (focus ((conv=>whnf);repeat ((first|refine zo _ ?_|refine zr _ rfl ?_|refine zn _ ?_|refine zs _ ?_|refine zd _ ?_|refine zw _ (by kernel_rfl) ?_);conv=>whnf)))
  refine br_sel h (fun _ h => ?_) (fun _ h => ?_)
  · (focus ((conv=>whnf);repeat ((first|refine zo _ ?_|refine zr _ rfl ?_|refine zn _ ?_|refine zs _ ?_|refine zd _ ?_|refine zw _ (by kernel_rfl) ?_);conv=>whnf)))
    obtain rfl := some_in h
    (first|rfl|exact Nat.le_of_ble_eq_true rfl|exact map_snoc _ _ _|exact map_put _ _ _ _|exact map_rep rfl|(simp [sub] <;> rfl))
  · (focus ((conv=>whnf);repeat ((first|refine zo _ ?_|refine zr _ rfl ?_|refine zn _ ?_|refine zs _ ?_|refine zd _ ?_|refine zw _ (by kernel_rfl) ?_);conv=>whnf)))
    obtain rfl := some_in h
    (first|rfl|exact Nat.le_of_ble_eq_true rfl|exact map_snoc _ _ _|exact map_put _ _ _ _|exact map_rep rfl|(simp [sub] <;> rfl))

theorem i_IsFill_ok (N : Nat) (v0 : Gx.Grid) (v1 : List UInt8) {r : Bool} (h : i_IsFill N v0 v1 = some r) : Pure Try.prog 19 [DV.agg (Gx.Grid.enc v0), DV.one (D.s v1)] (DV.one (D.b r)) := by
  refine pure_of_walk Try.tok Try.mixed Try.func19 (by kernel_rfl) fun W => ?_
  unfold i_IsFill at h
  (focus ((conv=>whnf);repeat ((first|refine zo _ ?_|refine zr _ rfl ?_|refine zn _ ?_|refine zs _ ?_|refine zd _ ?_|refine zw _ (by kernel_rfl) ?_);conv=>whnf)))
  refine call_sel (E := fun x => DV.one (D.b x)) h (fun x1 h1 => (i_IsGrid_ok N v0 h1)) (fun x1 hx1 h => ?_)
  (focus ((conv=>whnf);repeat ((first|refine zo _ ?_|refine zr _ rfl ?_|refine zn _ ?_|refine zs _ ?_|refine zd _ ?_|refine zw _ (by kernel_rfl) ?_);conv=>whnf)))
  refine br_sel h (fun _ h => ?_) (fun _ h => ?_)
  · (focus ((conv=>whnf);repeat ((first|refine zo _ ?_|refine zr _ rfl ?_|refine zn _ ?_|refine zs _ ?_|refine zd _ ?_|refine zw _ (by kernel_rfl) ?_);conv=>whnf)))
    obtain rfl := some_in h
    (first|rfl|exact Nat.le_of_ble_eq_true rfl|exact map_snoc _ _ _|exact map_put _ _ _ _|exact map_rep rfl|(simp [sub] <;> rfl))
  · (focus ((conv=>whnf);repeat ((first|refine zo _ ?_|refine zr _ rfl ?_|refine zn _ ?_|refine zs _ ?_|refine zd _ ?_|refine zw _ (by kernel_rfl) ?_);conv=>whnf)))
    refine len_sel (m := (v1.length : Int)) (by (first|rfl|simp [sub])) ?_
    (focus ((conv=>whnf);repeat ((first|refine zo _ ?_|refine zr _ rfl ?_|refine zn _ ?_|refine zs _ ?_|refine zd _ ?_|refine zw _ (by kernel_rfl) ?_);conv=>whnf)))
    refine len_sel (m := (v0.mCells.length : Int)) (by (first|rfl|simp [sub])) ?_
    (focus ((conv=>whnf);repeat ((first|refine zo _ ?_|refine zr _ rfl ?_|refine zn _ ?_|refine zs _ ?_|refine zd _ ?_|refine zw _ (by kernel_rfl) ?_);conv=>whnf)))
    refine br_sel h (fun _ h => ?_) (fun _ h => ?_)
    · (focus ((conv=>whnf);repeat ((first|refine zo _ ?_|refine zr _ rfl ?_|refine zn _ ?_|refine zs _ ?_|refine zd _ ?_|refine zw _ (by kernel_rfl) ?_);conv=>whnf)))
      obtain rfl := some_in h
      (first|rfl|exact Nat.le_of_ble_eq_true rfl|exact map_snoc _ _ _|exact map_put _ _ _ _|exact map_rep rfl|(simp [sub] <;> rfl))
    · (focus ((conv=>whnf);repeat ((first|refine zo _ ?_|refine zr _ rfl ?_|refine zn _ ?_|refine zd _ ?_|refine zw _ (by kernel_rfl) ?_);conv=>whnf)))
      obtain ⟨zt3, h, gt3⟩ := cutb_some h
      refine W.r_cut (fun (t3 : Unit) => ⟨[], [], 1000⟩) (fun t => .nx t = zt3) ?_ ?_
      · (focus ((conv=>whnf);repeat ((first|refine zo _ ?_|refine zr _ rfl ?_|refine zn _ ?_|refine zs _ ?_|refine zd _ ?_|refine zw _ (by kernel_rfl) ?_);conv=>whnf)))
        refine len_sel (m := (v1.length : Int)) (by (first|rfl|simp [sub])) ?_
        (focus ((conv=>whnf);repeat ((first|refine zo _ ?_|refine zr _ rfl ?_|refine zn _ ?_|refine zs _ ?_|refine zd _ ?_|refine zw _ (by kernel_rfl) ?_);conv=>whnf)))
        refine loop_lp (fun (p1 : Int) => ⟨[(1, .d (D.s v1)), (2, .ptr 1 0 0), (18, .d (D.i (v1.length : Int))), (19, .d (D.i p1))], [(1, some (.box [.d (D.i v0.mRows), .d (D.i v0.mCols), .d (D.s v0.mCells)]))], 1000⟩) h ?_ ?_
        · (refine weak_go ?_;(repeat ((conv=>whnf);refine And.intro (by (first|rfl|exact Nat.le_of_ble_eq_true rfl|exact map_snoc _ _ _|exact map_put _ _ _ _|exact map_rep rfl|(simp [sub] <;> rfl))) ?_));(conv=>whnf);exact trivial)
        intro np1 p1 yp1 h hfp1
        unfold i_IsFill_L1 at h
        (focus ((conv=>whnf);repeat ((first|refine zo _ ?_|refine zr _ rfl ?_|refine zn _ ?_|refine zs _ ?_|refine zd _ ?_|refine zw _ (by kernel_rfl) ?_);conv=>whnf)))
        refine br_sel h (fun _ h => ?_) (fun _ h => ?_)
        · (focus ((conv=>whnf);repeat ((first|refine zo _ ?_|refine zr _ rfl ?_|refine zn _ ?_|refine zs _ ?_|refine zd _ ?_|refine zw _ (by kernel_rfl) ?_);conv=>whnf)))
          refine chk_sel h (fun q => q) (fun h => ?_)
          (focus ((conv=>whnf);repeat ((first|refine zo _ ?_|refine zr _ rfl ?_|refine zn _ ?_|refine zs _ ?_|refine zd _ ?_|refine zw _ (by kernel_rfl) ?_);conv=>whnf)))
          refine chk_sel h (fun q => q) (fun h => ?_)
          (focus ((conv=>whnf);repeat ((first|refine zo _ ?_|refine zr _ rfl ?_|refine zn _ ?_|refine zs _ ?_|refine zd _ ?_|refine zw _ (by kernel_rfl) ?_);conv=>whnf)))
          refine br_sel h (fun _ h => ?_) (fun _ h => ?_)
          · (focus ((conv=>whnf);repeat ((first|refine zo _ ?_|refine zr _ rfl ?_|refine zn _ ?_|refine zs _ ?_|refine zd _ ?_|refine zw _ (by kernel_rfl) ?_);conv=>whnf)))
            obtain rfl := some_in h
            have h : some _ = some _ := congrArg some (show _ = _ from hfp1)
            obtain rfl := some_in h
            have h : some _ = some _ := congrArg some (show _ = _ from gt3)
            obtain rfl := some_in h
            (first|rfl|exact Nat.le_of_ble_eq_true rfl|exact map_snoc _ _ _|exact map_put _ _ _ _|exact map_rep rfl|(simp [sub] <;> rfl))
          · (focus ((conv=>whnf);repeat ((first|refine zo _ ?_|refine zr _ rfl ?_|refine zn _ ?_|refine zs _ ?_|refine zd _ ?_|refine zw _ (by kernel_rfl) ?_);conv=>whnf)))
            refine chk_sel h (fun q => q) (fun h => ?_)
            (focus ((conv=>whnf);repeat ((first|refine zo _ ?_|refine zr _ rfl ?_|refine zn _ ?_|refine zs _ ?_|refine zd _ ?_|refine zw _ (by kernel_rfl) ?_);conv=>whnf)))
            refine br_sel h (fun _ h => ?_) (fun _ h => ?_)
            · (focus ((conv=>whnf);repeat ((first|refine zo _ ?_|refine zr _ rfl ?_|refine zn _ ?_|refine zs _ ?_|refine zd _ ?_|refine zw _ (by kernel_rfl) ?_);conv=>whnf)))
              refine chk_sel h (fun q => q) (fun h => ?_)
              (focus ((conv=>whnf);repeat ((first|refine zo _ ?_|refine zr _ rfl ?_|refine zn _ ?_|refine zs _ ?_|refine zd _ ?_|refine zw _ (by kernel_rfl) ?_);conv=>whnf)))
              refine br_sel h (fun _ h => ?_) (fun _ h => ?_)
              · (focus ((conv=>whnf);repeat ((first|refine zo _ ?_|refine zr _ rfl ?_|refine zn _ ?_|refine zs _ ?_|refine zd _ ?_|refine zw _ (by kernel_rfl) ?_);conv=>whnf)))
                refine chk_sel h (fun q => q) (fun h => ?_)
                (focus ((conv=>whnf);repeat ((first|refine zo _ ?_|refine zr _ rfl ?_|refine zn _ ?_|refine zs _ ?_|refine zd _ ?_|refine zw _ (by kernel_rfl) ?_);conv=>whnf)))
                refine call_sel (E := fun x => DV.one (D.b x)) h (fun x2 h1 => (i_isLetter_ok N (byteI v1 p1) h1)) (fun x2 hx2 h => ?_)
                (focus ((conv=>whnf);repeat ((first|refine zo _ ?_|refine zr _ rfl ?_|refine zn _ ?_|refine zs _ ?_|refine zd _ ?_|refine zw _ (by kernel_rfl) ?_);conv=>whnf)))
                refine br_sel h (fun _ h => ?_) (fun _ h => ?_)
                · (focus ((conv=>whnf);repeat ((first|refine zo _ ?_|refine zr _ rfl ?_|refine zn _ ?_|refine zs _ ?_|refine zd _ ?_|refine zw _ (by kernel_rfl) ?_);conv=>whnf)))
                  obtain rfl := some_in h
                  have h : some _ = some _ := congrArg some (show _ = _ from hfp1)
                  obtain rfl := some_in h
                  have h : some _ = some _ := congrArg some (show _ = _ from gt3)
                  obtain rfl := some_in h
                  (first|rfl|exact Nat.le_of_ble_eq_true rfl|exact map_snoc _ _ _|exact map_put _ _ _ _|exact map_rep rfl|(simp [sub] <;> rfl))
                · (focus ((conv=>whnf);repeat ((first|refine zo _ ?_|refine zr _ rfl ?_|refine zn _ ?_|refine zs _ ?_|refine zd _ ?_|refine zw _ (by kernel_rfl) ?_);conv=>whnf)))
                  obtain rfl := some_in h
                  refine loop_back hfp1 ?_
                  (refine weak_go ?_;(repeat ((conv=>whnf);refine And.intro (by (first|rfl|exact Nat.le_of_ble_eq_true rfl|exact map_snoc _ _ _|exact map_put _ _ _ _|exact map_rep rfl|(simp [sub] <;> rfl))) ?_));(conv=>whnf);exact trivial)
              · (focus ((conv=>whnf);repeat ((first|refine zo _ ?_|refine zr _ rfl ?_|refine zn _ ?_|refine zs _ ?_|refine zd _ ?_|refine zw _ (by kernel_rfl) ?_);conv=>whnf)))
                obtain rfl := some_in h
                refine loop_back hfp1 ?_
                (refine weak_go ?_;(repeat ((conv=>whnf);refine And.intro (by (first|rfl|exact Nat.le_of_ble_eq_true rfl|exact map_snoc _ _ _|exact map_put _ _ _ _|exact map_rep rfl|(simp [sub] <;> rfl))) ?_));(conv=>whnf);exact trivial)
            · (focus ((conv=>whnf);repeat ((first|refine zo _ ?_|refine zr _ rfl ?_|refine zn _ ?_|refine zs _ ?_|refine zd _ ?_|refine zw _ (by kernel_rfl) ?_);conv=>whnf)))
              obtain rfl := some_in h
              refine loop_back hfp1 ?_
              (refine weak_go ?_;(repeat ((conv=>whnf);refine And.intro (by (first|rfl|exact Nat.le_of_ble_eq_true rfl|exact map_snoc _ _ _|exact map_put _ _ _ _|exact map_rep rfl|(simp [sub] <;> rfl))) ?_));(conv=>whnf);exact trivial)
        · (focus ((conv=>whnf);repeat ((first|refine zo _ ?_|refine zr _ rfl ?_|refine zn _ ?_|refine zs _ ?_|refine zd _ ?_|refine zw _ (by kernel_rfl) ?_);conv=>whnf)))
          obtain rfl := some_in h
          have h : some _ = some _ := congrArg some (show _ = _ from hfp1)
          refine cut_at (()) (some_in h) ?_
          (refine weak_go ?_;(repeat ((conv=>whnf);refine And.intro (by (first|rfl|exact Nat.le_of_ble_eq_true rfl|exact map_snoc _ _ _|exact map_put _ _ _ _|exact map_rep rfl|(simp [sub] <;> rfl))) ?_));(conv=>whnf);exact trivial)
      rintro t3 rfl
      have h : _ = some _ := gt3
      (focus ((conv=>whnf);repeat ((first|refine zo _ ?_|refine zr _ rfl ?_|refine zn _ ?_|refine zs _ ?_|refine zd _ ?_|refine zw _ (by kernel_rfl) ?_);conv=>whnf)))
      obtain rfl := some_in h
      (first|rfl|exact Nat.le_of_ble_eq_true rfl|exact map_snoc _ _ _|exact map_put _ _ _ _|exact map_rep rfl|(simp [sub] <;> rfl))

theorem i_rowsOf_ok (N : Nat) (v0 : List UInt8) (v1 : Int) {r : (List UInt8)} (h : i_rowsOf N v0 v1 = some r) : Pure Try.prog 20 [DV.one (D.s v0), DV.one (D.i v1)] (DV.one (D.s r)) := by
  refine pure_of_walk Try.tok Try.mixed Try.func20 (by kernel_rfl) fun W => ?_
  unfold i_rowsOf at h
  (focus ((conv=>whnf);repeat ((first|refine zo _ ?_|refine zr _ rfl ?_|refine zn _ ?_|refine zd _ ?_|refine zw _ (by kernel_rfl) ?_);conv=>whnf)))
  refine W.r_seq ?_
  (focus ((conv=>whnf);repeat ((first|refine zo _ ?_|refine zr _ rfl ?_|refine zn _ ?_|refine zd _ ?_|refine zw _ (by kernel_rfl) ?_);conv=>whnf)))
  refine W.r_seq ?_
  (focus ((conv=>whnf);repeat ((first|refine zo _ ?_|refine zr _ rfl ?_|refine zn _ ?_|refine zd _ ?_|refine zw _ (by kernel_rfl) ?_);conv=>whnf)))
  obtain ⟨zt1, h, gt1⟩ := bnd_some h
  refine W.r_cut (fun (t1 : (List (List UInt8))) => ⟨[(5, .sl 1)], [(1, some (.arr 1 (List.map Gx.encS t1) true))], 1000⟩) (fun t => t = zt1) ?_ ?_
  · (focus ((conv=>whnf);repeat ((first|refine zo _ ?_|refine zr _ rfl ?_|refine zn _ ?_|refine zs _ ?_|refine zd _ ?_|refine zw _ (by kernel_rfl) ?_);conv=>whnf)))
    refine loop_lp (fun (p1 : (List (List UInt8)) × Int) => ⟨[(0, .d (D.s v0)), (1, .d (D.i v1)), (5, .sl 1), (6, .d (D.i p1.2))], [(1, some (.arr 1 (List.map Gx.encS p1.1) true))], 1000⟩) h ?_ ?_
    · (refine weak_go ?_;(repeat ((conv=>whnf);refine And.intro (by (first|rfl|exact Nat.le_of_ble_eq_true rfl|exact map_snoc _ _ _|exact map_put _ _ _ _|exact map_rep rfl|(simp [sub] <;> rfl))) ?_));(conv=>whnf);exact trivial)
    intro np1 p1 yp1 h hfp1
    unfold i_rowsOf_L1 at h
    (focus ((conv=>whnf);repeat ((first|refine zo _ ?_|refine zr _ rfl ?_|refine zn _ ?_|refine zs _ ?_|refine zd _ ?_|refine zw _ (by kernel_rfl) ?_);conv=>whnf)))
    refine len_sel (m := (v0.length : Int)) (by (first|rfl|simp [sub])) ?_
    (focus ((conv=>whnf);repeat ((first|refine zo _ ?_|refine zr _ rfl ?_|refine zn _ ?_|refine zs _ ?_|refine zd _ ?_|refine zw _ (by kernel_rfl) ?_);conv=>whnf)))
    refine br_sel h (fun _ h => ?_) (fun _ h => ?_)
    · (focus ((conv=>whnf);repeat ((first|refine zo _ ?_|refine zr _ rfl ?_|refine zn _ ?_|refine zs _ ?_|refine zd _ ?_|refine zw _ (by kernel_rfl) ?_);conv=>whnf)))
      refine chk_sel h (fun q => q) (fun h => ?_)
      (focus ((conv=>whnf);repeat ((first|refine zo _ ?_|refine zr _ rfl ?_|refine zn _ ?_|refine zs _ ?_|refine zd _ ?_|refine zw _ (by kernel_rfl) ?_);conv=>whnf)))
      refine app_sel h (app_ok (by (first|rfl|simp [sub])) (by (first|rfl|simp [sub])) (by decide)) (by (intro h; cases h)) (fun h => ?_)
      (focus ((conv=>whnf);repeat ((first|refine zo _ ?_|refine zr _ rfl ?_|refine zn _ ?_|refine zs _ ?_|refine zd _ ?_|refine zw _ (by kernel_rfl) ?_);conv=>whnf)))
      obtain rfl := some_in h
      refine loop_back hfp1 ?_
      (refine weak_go ?_;(repeat ((conv=>whnf);refine And.intro (by (first|rfl|exact Nat.le_of_ble_eq_true rfl|exact map_snoc _ _ _|exact map_put _ _ _ _|exact map_rep rfl|(simp [sub] <;> rfl))) ?_));(conv=>whnf);exact trivial)
    · (focus ((conv=>whnf);repeat ((first|refine zo _ ?_|refine zr _ rfl ?_|refine zn _ ?_|refine zs _ ?_|refine zd _ ?_|refine zw _ (by kernel_rfl) ?_);conv=>whnf)))
      obtain rfl := some_in h
      have h : some _ = some _ := congrArg some (show _ = _ from hfp1)
      refine cut_at (p1.1) (some_in h) ?_
      (refine weak_go ?_;(repeat ((conv=>whnf);refine And.intro (by (first|rfl|exact Nat.le_of_ble_eq_true rfl|exact map_snoc _ _ _|exact map_put _ _ _ _|exact map_rep rfl|(simp [sub] <;> rfl))) ?_));(conv=>whnf);exact trivial)
  rintro t1 rfl
  have h : _ = some _ := gt1
  (focus ((conv=>whnf);repeat ((first|refine zo _ ?_|refine zr _ rfl ?_|refine zn _ ?_|refine zs _ ?_|refine zd _ ?_|refine zw _ (by kernel_rfl) ?_);conv=>whnf)))
  refine call_sel (E := fun x => DV.one (D.s x)) h (fun x2 h1 => (g_strings_Join_ok N t1 ([47] : List UInt8) h1)) (fun x2 hx2 h => ?_)
  (focus ((conv=>whnf);repeat ((first|refine zo _ ?_|refine zr _ rfl ?_|refine zn _ ?_|refine zs _ ?_|refine zd _ ?_|refine zw _ (by kernel_rfl) ?_);conv=>whnf)))
  obtain rfl := some_in h
  (first|rfl|exact Nat.le_of_ble_eq_true rfl|exact map_snoc _ _ _|exact map_put _ _ _ _|exact map_rep rfl|(simp [sub] <;> rfl))

theorem i_FormatFill_ok (N : Nat) (v0 : Gx.Grid) (v1 : List UInt8) {r : (List UInt8)} (h : i_FormatFill N v0 v1 = some r) : Pure Try.prog 9 [DV.agg (Gx.Grid.enc v0), DV.one (D.s v1)] (DV.one (D.s r)) := by
  refine pure_of_walk Try.tok Try.mixed Try.func9 (by kernel_rfl) fun W => ?_
  unfold i_FormatFill at h
  (focus ((conv=>whnf);repeat ((first|refine zo _ ?_|refine zr _ rfl ?_|refine zn _ ?_|refine zs _ ?_|refine zd _ ?_|refine zw _ (by kernel_rfl) ?_);conv=>whnf)))
  refine call_sel (E := fun x => DV.one (D.b x)) h (fun x1 h1 => (i_IsFill_ok N v0 v1 h1)) (fun x1 hx1 h => ?_)
  (focus ((conv=>whnf);repeat ((first|refine zo _ ?_|refine zr _ rfl ?_|refine zn _ ?_|refine zs _ ?_|refine zd _ ?_|refine zw _ (by kernel_rfl) ?_);conv=>whnf)))
  refine br_sel h (fun _ h => ?_) (fun _ h => ?_)
  · (focus ((conv=>whnf);repeat ((first|refine zo _ ?_|refine zr _ rfl ?_|refine zn _ ?_|refine zs _ ?_|refine zd _ ?_|refine zw _ (by kernel_rfl) ?_);conv=>whnf)))
    obtain rfl := some_in h
    (first|rfl|exact Nat.le_of_ble_eq_true rfl|exact map_snoc _ _ _|exact map_put _ _ _ _|exact map_rep rfl|(simp [sub] <;> rfl))
  · (focus ((conv=>whnf);repeat ((first|refine zo _ ?_|refine zr _ rfl ?_|refine zn _ ?_|refine zs _ ?_|refine zd _ ?_|refine zw _ (by kernel_rfl) ?_);conv=>whnf)))
    refine call_sel (E := fun x => DV.one (D.s x)) h (fun x2 h1 => (i_rowsOf_ok N v1 v0.mCols h1)) (fun x2 hx2 h => ?_)
    (focus ((conv=>whnf);repeat ((first|refine zo _ ?_|refine zr _ rfl ?_|refine zn _ ?_|refine zs _ ?_|refine zd _ ?_|refine zw _ (by kernel_rfl) ?_);conv=>whnf)))
    obtain rfl := some_in h
    (first|rfl|exact Nat.le_of_ble_eq_true rfl|exact map_snoc _ _ _|exact map_put _ _ _ _|exact map_rep rfl|(simp [sub] <;> rfl))

theorem l_FnExactFormatFill_ok (N : Nat) (v0 : Gx.Grid) (v1 : List UInt8) {r : Bool} (h : l_FnExactFormatFill N v0 v1 = some r) : Pure Try.prog 3 [DV.agg (Gx.Grid.enc v0), DV.one (D.s v1)] (DV.one (D.b r)) := by
  refine pure_of_walk Try.tok Try.mixed Try.func3 (by kernel_rfl) fun W => ?_
  unfold l_FnExactFormatFill at h
  (focus ((conv=>whnf);repeat ((first|refine zo _ ?_|refine zr _ rfl ?_|refine zn _ ?_|refine zs _ ?_|refine zd _ ?_|refine zw _ (by kernel_rfl) ?_);conv=>whnf)))
  refine len_sel (m := (v1.length : Int)) (by (first|rfl|simp [sub])) ?_
  (focus ((conv=>whnf);repeat ((first|refine zo _ ?_|refine zr _ rfl ?_|refine zn _ ?_|refine zs _ ?_|refine zd _ ?_|refine zw _ (by kernel_rfl) ?_);conv=>whnf)))
  refine br_sel h (fun _ h => ?_) (fun _ h => ?_)
  · (focus ((conv=>whnf);repeat ((first|refine zo _ ?_|refine zr _ rfl ?_|refine zn _ ?_|refine zs _ ?_|refine zd _ ?_|refine zw _ (by kernel_rfl) ?_);conv=>whnf)))
    obtain rfl := some_in h
    (first|rfl|exact Nat.le_of_ble_eq_true rfl|exact map_snoc _ _ _|exact map_put _ _ _ _|exact map_rep rfl|(simp [sub] <;> rfl))
  · (focus ((conv=>whnf);repeat ((first|refine zo _ ?_|refine zr _ rfl ?_|refine zn _ ?_|refine zs _ ?_|refine zd _ ?_|refine zw _ (by kernel_rfl) ?_);conv=>whnf)))
    refine call_sel (E := fun x => DV.one (D.i x)) h (fun x1 h1 => (l_szGrid_ok N v0 1048576 h1)) (fun x1 hx1 h => ?_)
    (focus ((conv=>whnf);repeat ((first|refine zo _ ?_|refine zr _ rfl ?_|refine zn _ ?_|refine zs _ ?_|refine zd _ ?_|refine zw _ (by kernel_rfl) ?_);conv=>whnf)))
    refine br_sel h (fun _ h => ?_) (fun _ h => ?_)
    · (focus ((conv=>whnf);repeat ((first|refine zo _ ?_|refine zr _ rfl ?_|refine zn _ ?_|refine zs _ ?_|refine zd _ ?_|refine zw _ (by kernel_rfl) ?_);conv=>whnf)))
      obtain rfl := some_in h
      (first|rfl|exact Nat.le_of_ble_eq_true rfl|exact map_snoc _ _ _|exact map_put _ _ _ _|exact map_rep rfl|(simp [sub] <;> rfl))
    · (focus ((conv=>whnf);repeat ((first|refine zo _ ?_|refine zr _ rfl ?_|refine zn _ ?_|refine zs _ ?_|refine zd _ ?_|refine zw _ (by kernel_rfl) ?_);conv=>whnf)))
      refine call_sel (E := fun x => DV.agg (Gx.Grid.enc x)) h (fun x2 h1 => (l_toGrid_ok N v0 h1)) (fun x2 hx2 h => ?_)
      (focus ((conv=>whnf);repeat ((first|refine zo _ ?_|refine zr _ rfl ?_|refine zn _ ?_|refine zs _ ?_|refine zd _ ?_|refine zw _ (by kernel_rfl) ?_);conv=>whnf)))
      refine call_sel (E := fun x => DV.one (D.s x)) h (fun x3 h1 => (s_FormatFill_ok N x2 v1 h1)) (fun x3 hx3 h => ?_)
      (focus ((conv=>whnf);repeat ((first|refine zo _ ?_|refine zr _ rfl ?_|refine zn _ ?_|refine zs _ ?_|refine zd _ ?_|refine zw _ (by kernel_rfl) ?_);conv=>whnf)))
      refine call_sel (E := fun x => DV.agg (Gx.Grid.enc x)) h (fun x4 h1 => (l_toGrid_ok N v0 h1)) (fun x4 hx4 h => ?_)
      (focus ((conv=>whnf);repeat ((first|refine zo _ ?_|refine zr _ rfl ?_|refine zn _ ?_|refine zs _ ?_|refine zd _ ?_|refine zw _ (by kernel_rfl) ?_);conv=>whnf)))
      refine call_sel (E := fun x => DV.one (D.s x)) h (fun x5 h1 => (i_FormatFill_ok N x4 v1 h1)) (fun x5 hx5 h => ?_)
      (focus ((conv=>whnf);repeat ((first|refine zo _ ?_|refine zr _ rfl ?_|refine zn _ ?_|refine zs _ ?_|refine zd _ ?_|refine zw _ (by kernel_rfl) ?_);conv=>whnf)))
      refine br_sel h (fun _ h => ?_) (fun _ h => ?_)
      · (focus ((conv=>whnf);repeat ((first|refine zo _ ?_|refine zr _ rfl ?_|refine zn _ ?_|refine zs _ ?_|refine zd _ ?_|refine zw _ (by kernel_rfl) ?_);conv=>whnf)))
        obtain rfl := some_in h
        (first|rfl|exact Nat.le_of_ble_eq_true rfl|exact map_snoc _ _ _|exact map_put _ _ _ _|exact map_rep rfl|(simp [sub] <;> rfl))
      · (focus ((conv=>whnf);repeat ((first|refine zo _ ?_|refine zr _ rfl ?_|refine zn _ ?_|refine zs _ ?_|refine zd _ ?_|refine zw _ (by kernel_rfl) ?_);conv=>whnf)))
        obtain rfl := some_in h
        (first|rfl|exact Nat.le_of_ble_eq_true rfl|exact map_snoc _ _ _|exact map_put _ _ _ _|exact map_rep rfl|(simp [sub] <;> rfl))
end Lw
end Go.Proofs
