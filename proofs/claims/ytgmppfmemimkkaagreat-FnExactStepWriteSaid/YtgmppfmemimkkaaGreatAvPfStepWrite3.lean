/- PRINTED BY gen.py (mine): their contracts. -/
import Derived.Test.YtgmppfmemimkkaaGreatAvPfStepWrite2
namespace Go.Proofs
open Go Go.Av
set_option maxRecDepth 100000
set_option maxHeartbeats 40000000
set_option linter.unusedVariables false
set_option linter.unusedSimpArgs false
namespace Lw
theorem i_Backwards_ok (N : Nat) (v0 : List UInt8) {r : (List UInt8)} (h : i_Backwards N v0 = some r) : Pure Tryz.prog 219 [DV.one (D.s v0)] (DV.one (D.s r)) := by
 refine pure_of_walk Tryz.tok Tryz.mixed Tryz.func219 (by kernel_rfl) fun W => ?_
 unfold i_Backwards at h
 refine avb ?_
 refine lns (v0.length : Int) ?_
 refine avb ?_
 refine brb h ?_ ?_<;>intro _ h
 ·cases h;exact eq_by
 ·refine chk_sel h (fun q => Nat.le_trans q (by decide)) (fun h => ?_)
  refine avb ?_
  refine qtb ?_;refine turn_sel (O := fun (x1 : (List (UInt8))) => [some (.arr 1 (List.map encU x1) true)]) (V := fun (x1 : (List (UInt8))) => .tup []) h ⟨flat_map (fun _ => rfl), trivial⟩ (fun x1 h1 => (g_slices_Reverse_Sbyte_byte_ok N v0 h1)) (fun x1 hx1 h => ?_)
  refine avb ?_
  refine ⟨x1, (by (exact eq_by)), ?_⟩
  refine avb ?_
  cases h;exact eq_by

theorem i_TurnGrid_ok (N : Nat) (v0 : Gx.Grid) {r : Gx.Grid} (h : i_TurnGrid N v0 = some r) : Pure Tryz.prog 203 [DV.agg (Gx.Grid.enc v0)] (DV.agg (Gx.Grid.enc r)) := by
 refine pure_of_walk Tryz.tok Tryz.mixed Tryz.func203 (by kernel_rfl) fun W => ?_
 unfold i_TurnGrid at h
 refine avb ?_
 refine plb ?_;refine call_sel (E := fun (x : Bool) => DV.one (D.b x)) h (fun x1 h1 => (i_IsGrid_ok N v0 h1)) (fun x1 hx1 h => ?_)
 refine avb ?_
 refine brb h ?_ ?_<;>intro _ h
 ·cases h;exact eq_by
 ·refine plb ?_;refine call_sel (E := fun (x : (List UInt8)) => DV.one (D.s x)) h (fun x2 h1 => (i_Backwards_ok N v0.mCells h1)) (fun x2 hx2 h => ?_)
  refine avb ?_
  cases h;exact eq_by

theorem i_IsSymmetric_ok (N : Nat) (v0 : Gx.Grid) {r : Bool} (h : i_IsSymmetric N v0 = some r) : Pure Tryz.prog 179 [DV.agg (Gx.Grid.enc v0)] (DV.one (D.b r)) := by
 refine pure_of_walk Tryz.tok Tryz.mixed Tryz.func179 (by kernel_rfl) fun W => ?_
 unfold i_IsSymmetric at h
 refine avb ?_
 refine plb ?_;refine call_sel (E := fun (x : Bool) => DV.one (D.b x)) h (fun x1 h1 => (i_IsGrid_ok N v0 h1)) (fun x1 hx1 h => ?_)
 refine avb ?_
 refine brb h ?_ ?_<;>intro _ h
 ·refine plb ?_;refine call_sel (E := fun (x : Gx.Grid) => DV.agg (Gx.Grid.enc x)) h (fun x2 h1 => (i_TurnGrid_ok N v0 h1)) (fun x2 hx2 h => ?_)
  refine avb ?_
  cases h;exact eq_by
 ·cases h;exact eq_by

theorem i_at_ok (N : Nat) (v0 : Int) (v1 : Int) {r : Bool} (h : i_at N v0 v1 = some r) : Pure Tryz.prog 107 [DV.one (D.i v0), DV.one (D.i v1)] (DV.one (D.b r)) := by
 refine pure_of_walk Tryz.tok Tryz.mixed Tryz.func107 (by kernel_rfl) fun W => ?_
 unfold i_at at h
 refine avb ?_
 refine brb h ?_ ?_<;>intro _ h
 ·cases h;exact eq_by
 ·cases h;exact eq_by

theorem i_PartsOf_1_B_ok (N : Nat) (r_i_PartsOf_1 : Int → Int → Gx.Grid → (List (Bool)) → Option ((List (Bool)))) (hr_i_PartsOf_1 : ∀ a0 a1 a2 a3 r, r_i_PartsOf_1 a0 a1 a2 a3 = some r → Turn Tryz.prog 220 [.d (D.i a0), .d (D.i a1), .ptr 0 0 0, .ptr 1 0 0, .ptr 2 0 0] [.box [.d (D.i a2.mRows), .d (D.i a2.mCols), .d (D.s a2.mCells)], .box [.sl 3], .box [.fn 220 [.ptr 0 0 0, .ptr 1 0 0, .ptr 2 0 0]], .arr 1 (List.map Gx.encB a3) true] [some (.box [.d (D.i a2.mRows), .d (D.i a2.mCols), .d (D.s a2.mCells)]), some (.box [.sl 3]), some (.box [.fn 220 [.ptr 0 0 0, .ptr 1 0 0, .ptr 2 0 0]]), some (.arr 1 (List.map Gx.encB r) true)] (.tup [])) (v0 : Int) (v1 : Int) (c0 : Gx.Grid) (c1 : List (Bool)) {r : (List (Bool))} (h : i_PartsOf_1_B N r_i_PartsOf_1 v0 v1 c0 c1 = some r) : Turn Tryz.prog 220 [.d (D.i v0), .d (D.i v1), .ptr 0 0 0, .ptr 1 0 0, .ptr 2 0 0] [.box [.d (D.i c0.mRows), .d (D.i c0.mCols), .d (D.s c0.mCells)], .box [.sl 3], .box [.fn 220 [.ptr 0 0 0, .ptr 1 0 0, .ptr 2 0 0]], .arr 1 (List.map Gx.encB c1) true] [some (.box [.d (D.i c0.mRows), .d (D.i c0.mCols), .d (D.s c0.mCells)]), some (.box [.sl 3]), some (.box [.fn 220 [.ptr 0 0 0, .ptr 1 0 0, .ptr 2 0 0]]), some (.arr 1 (List.map Gx.encB r) true)] (.tup []) := by
 refine turn_of_walk Tryz.tok Tryz.mixed Tryz.func220 (by kernel_rfl) rfl fun W => ?_
 unfold i_PartsOf_1_B at h
 refine avb ?_
 refine plb ?_;refine call_sel (E := fun (x : Bool) => DV.one (D.b x)) h (fun x1 h1 => (i_at_ok N v0 c0.mRows h1)) (fun x1 hx1 h => ?_)
 refine avb ?_
 refine brb h ?_ ?_<;>intro _ h
 ·obtain rfl := some_in h
  exact ⟨cons_eq rfl (cons_eq rfl (cons_eq rfl (cons_eq (some_arr (by (exact eq_by))) (rfl)))), by (exact eq_by)⟩
 ·refine plb ?_;refine call_sel (E := fun (x : Bool) => DV.one (D.b x)) h (fun x2 h1 => (i_at_ok N v1 c0.mCols h1)) (fun x2 hx2 h => ?_)
  refine avb ?_
  refine brb h ?_ ?_<;>intro _ h
  ·obtain rfl := some_in h
   exact ⟨cons_eq rfl (cons_eq rfl (cons_eq rfl (cons_eq (some_arr (by (exact eq_by))) (rfl)))), by (exact eq_by)⟩
  ·refine idxp_sel h (fun x3 hx3 h => ?_)
   refine avb ?_
   refine ldp_sel hx3 ?_
   refine avb ?_
   refine brb h ?_ ?_<;>intro _ h
   ·obtain rfl := some_in h
    exact ⟨cons_eq rfl (cons_eq rfl (cons_eq rfl (cons_eq (some_arr (by (exact eq_by))) (rfl)))), by (exact eq_by)⟩
   ·refine chk_sel h (fun q => q) (fun h => ?_)
    refine avb ?_
    refine brb h ?_ ?_<;>intro _ h
    ·obtain rfl := some_in h
     exact ⟨cons_eq rfl (cons_eq rfl (cons_eq rfl (cons_eq (some_arr (by (exact eq_by))) (rfl)))), by (exact eq_by)⟩
    ·refine idxp_sel h (fun x4 hx4 h => ?_)
     refine avb ?_
     refine ldp_sel hx4 ?_
     refine avb ?_
     refine qtb ?_;refine turn_sel (O := fun (x5 : (List (Bool))) => [some (.box [.d (D.i c0.mRows), .d (D.i c0.mCols), .d (D.s c0.mCells)]), some (.box [.sl 3]), some (.box [.fn 220 [.ptr 0 0 0, .ptr 1 0 0, .ptr 2 0 0]]), some (.arr 1 (List.map Gx.encB x5) true)]) (V := fun (x5 : (List (Bool))) => .tup []) h ⟨flat_eq (show _ = List.map Gx.encB (List.set c1 (Int.toNat (w64 ((w64 (v0 * c0.mCols)) + v1))) true) by (exact eq_by)) (fun _ => rfl), trivial⟩ (fun x5 h1 => (turn_objs (by (exact eq_by)) (hr_i_PartsOf_1 (w64 (v0 - 1)) v1 c0 (List.set c1 (Int.toNat (w64 ((w64 (v0 * c0.mCols)) + v1))) true) _ h1))) (fun x5 hx5 h => ?_)
     refine avb ?_
     refine qtb ?_;refine turn_sel (O := fun (x6 : (List (Bool))) => [some (.box [.d (D.i c0.mRows), .d (D.i c0.mCols), .d (D.s c0.mCells)]), some (.box [.sl 3]), some (.box [.fn 220 [.ptr 0 0 0, .ptr 1 0 0, .ptr 2 0 0]]), some (.arr 1 (List.map Gx.encB x6) true)]) (V := fun (x6 : (List (Bool))) => .tup []) h ⟨flat_map (fun _ => rfl), trivial⟩ (fun x6 h1 => (hr_i_PartsOf_1 (w64 (v0 + 1)) v1 c0 x5 _ h1)) (fun x6 hx6 h => ?_)
     refine avb ?_
     refine qtb ?_;refine turn_sel (O := fun (x7 : (List (Bool))) => [some (.box [.d (D.i c0.mRows), .d (D.i c0.mCols), .d (D.s c0.mCells)]), some (.box [.sl 3]), some (.box [.fn 220 [.ptr 0 0 0, .ptr 1 0 0, .ptr 2 0 0]]), some (.arr 1 (List.map Gx.encB x7) true)]) (V := fun (x7 : (List (Bool))) => .tup []) h ⟨flat_map (fun _ => rfl), trivial⟩ (fun x7 h1 => (hr_i_PartsOf_1 v0 (w64 (v1 - 1)) c0 x6 _ h1)) (fun x7 hx7 h => ?_)
     refine avb ?_
     refine qtb ?_;refine turn_sel (O := fun (x8 : (List (Bool))) => [some (.box [.d (D.i c0.mRows), .d (D.i c0.mCols), .d (D.s c0.mCells)]), some (.box [.sl 3]), some (.box [.fn 220 [.ptr 0 0 0, .ptr 1 0 0, .ptr 2 0 0]]), some (.arr 1 (List.map Gx.encB x8) true)]) (V := fun (x8 : (List (Bool))) => .tup []) h ⟨flat_map (fun _ => rfl), trivial⟩ (fun x8 h1 => (hr_i_PartsOf_1 v0 (w64 (v1 + 1)) c0 x7 _ h1)) (fun x8 hx8 h => ?_)
     refine avb ?_
     obtain rfl := some_in h
     exact ⟨cons_eq rfl (cons_eq rfl (cons_eq rfl (cons_eq (some_arr (by (exact eq_by))) (rfl)))), by (exact eq_by)⟩

theorem i_PartsOf_1_R_ok (N : Nat) : ∀ n : Nat, (∀ a0 a1 a2 a3 r, i_PartsOf_1_R N n a0 a1 a2 a3 = some r → Turn Tryz.prog 220 [.d (D.i a0), .d (D.i a1), .ptr 0 0 0, .ptr 1 0 0, .ptr 2 0 0] [.box [.d (D.i a2.mRows), .d (D.i a2.mCols), .d (D.s a2.mCells)], .box [.sl 3], .box [.fn 220 [.ptr 0 0 0, .ptr 1 0 0, .ptr 2 0 0]], .arr 1 (List.map Gx.encB a3) true] [some (.box [.d (D.i a2.mRows), .d (D.i a2.mCols), .d (D.s a2.mCells)]), some (.box [.sl 3]), some (.box [.fn 220 [.ptr 0 0 0, .ptr 1 0 0, .ptr 2 0 0]]), some (.arr 1 (List.map Gx.encB r) true)] (.tup []))
 | 0 => fun _ _ _ _ _ h => by simp [i_PartsOf_1_R] at h
 | n + 1 => by
  have ih := i_PartsOf_1_R_ok N n
  exact fun a0 a1 a2 a3 _ h => i_PartsOf_1_B_ok N _ (ih) a0 a1 a2 a3 h

theorem i_PartsOf_1_ok (N : Nat) (v0 : Int) (v1 : Int) (v2 : Gx.Grid) (v3 : List (Bool)) {r : (List (Bool))} (h : i_PartsOf_1 N v0 v1 v2 v3 = some r) : Turn Tryz.prog 220 [.d (D.i v0), .d (D.i v1), .ptr 0 0 0, .ptr 1 0 0, .ptr 2 0 0] [.box [.d (D.i v2.mRows), .d (D.i v2.mCols), .d (D.s v2.mCells)], .box [.sl 3], .box [.fn 220 [.ptr 0 0 0, .ptr 1 0 0, .ptr 2 0 0]], .arr 1 (List.map Gx.encB v3) true] [some (.box [.d (D.i v2.mRows), .d (D.i v2.mCols), .d (D.s v2.mCells)]), some (.box [.sl 3]), some (.box [.fn 220 [.ptr 0 0 0, .ptr 1 0 0, .ptr 2 0 0]]), some (.arr 1 (List.map Gx.encB r) true)] (.tup []) :=
 (i_PartsOf_1_R_ok N N) v0 v1 v2 v3 _ h

theorem i_PartsOf_ok (N : Nat) (v0 : Gx.Grid) {r : Int} (h : i_PartsOf N v0 = some r) : Pure Tryz.prog 204 [DV.agg (Gx.Grid.enc v0)] (DV.one (D.i r)) := by
 refine pure_of_walk Tryz.tok Tryz.mixed Tryz.func204 (by kernel_rfl) fun W => ?_
 unfold i_PartsOf at h
 refine avb ?_
 refine plb ?_;refine call_sel (E := fun (x : Bool) => DV.one (D.b x)) h (fun x1 h1 => (i_IsGrid_ok N v0 h1)) (fun x1 hx1 h => ?_)
 refine avb ?_
 refine brb h ?_ ?_<;>intro _ h
 ·cases h;exact eq_by
 ·refine lns (v0.mCells.length : Int) ?_
  refine avb ?_
  refine chk_sel h (fun q => mks_ok q (by decide)) (fun h => ?_)
  refine ab0 ?_
  refine W.r_seq ?_
  refine ab0 ?_
  refine W.r_seq ?_
  refine ab0 ?_
  refine W.r_seq ?_
  refine ab0 ?_
  obtain ⟨zt5, h, gt5⟩ := bnd_some h
  refine W.r_cut (fun (t5 : Int) => ⟨[(5, .d (D.i t5))], [], 1000⟩) (fun t => t = zt5) ?_ ?_
  ·refine avb ?_
   refine lns (v0.mCells.length : Int) ?_
   refine avb ?_
   refine loop_lp (fun (p1 : (List (Bool)) × Int × Int) => ⟨[(1, .ptr 1 0 0), (3, .ptr 2 0 0), (4, .ptr 4 0 0), (5, .d (D.i p1.2.1)), (17, .d (D.i (v0.mCells.length : Int))), (18, .d (D.i p1.2.2))], [(1, some (.box [.d (D.i v0.mRows), .d (D.i v0.mCols), .d (D.s v0.mCells)])), (2, some (.box [.sl 3])), (3, some (.arr 1 (List.map Gx.encB p1.1) true)), (4, some (.box [.fn 220 [.ptr 1 0 0, .ptr 2 0 0, .ptr 4 0 0]]))], 1000⟩) h ?_ ?_
   ·exact weak_by
   intro np1 p1 yp1 h hfp1
   unfold i_PartsOf_L1 at h
   refine avb ?_
   refine br_sel h (fun _ h => ?_) (fun _ h => ?_)
   ·refine ab0 ?_
    refine W.r_seq ?_
    refine ab0 ?_
    refine W.r_seq ?_
    refine ab0 ?_
    obtain ⟨zt3, h, gt3⟩ := bnd_some h
    refine W.r_cut (fun (t3 : Bool) => ⟨[(1, .ptr 1 0 0), (3, .ptr 2 0 0), (4, .ptr 4 0 0), (5, .d (D.i p1.2.1)), (6, .d (D.i p1.2.2)), (17, .d (D.i (v0.mCells.length : Int))), (18, .d (D.i p1.2.2)), (32, .d (D.b t3))], [(1, some (.box [.d (D.i v0.mRows), .d (D.i v0.mCols), .d (D.s v0.mCells)])), (2, some (.box [.sl 3])), (3, some (.arr 1 (List.map Gx.encB p1.1) true)), (4, some (.box [.fn 220 [.ptr 1 0 0, .ptr 2 0 0, .ptr 4 0 0]]))], 1000⟩) (fun t => t = zt3) ?_ ?_
    ·refine avb ?_
     refine chk_sel h (fun q => q) (fun h => ?_)
     refine avb ?_
     refine brb h ?_ ?_<;>intro _ h
     ·refine idxp_sel h (fun x2 hx2 h => ?_)
      refine avb ?_
      refine ldp_sel hx2 ?_
      refine avb ?_
      refine cut_at (!x2) (some_in h) ?_
      exact weak_by
     ·refine cut_at (false) (some_in h) ?_
      exact weak_by
    rintro t3 rfl
    have h : _ = some _ := gt3
    refine avb ?_
    refine brb h ?_ ?_<;>intro _ h
    ·refine chk_sel h (fun q => q) (fun h => ?_)
     refine avb ?_
     refine chk_sel h (fun q => q) (fun h => ?_)
     refine avb ?_
     refine qtb ?_;refine turn_sel (O := fun (x4 : (List (Bool))) => [some (.box [.d (D.i v0.mRows), .d (D.i v0.mCols), .d (D.s v0.mCells)]), some (.box [.sl 3]), some (.box [.fn 220 [.ptr 0 0 0, .ptr 1 0 0, .ptr 2 0 0]]), some (.arr 1 (List.map Gx.encB x4) true)]) (V := fun (x4 : (List (Bool))) => .tup []) h ⟨flat_map (fun _ => rfl), trivial⟩ (fun x4 h1 => (i_PartsOf_1_ok N (w64 (Int.tdiv p1.2.2 v0.mCols)) (Int.tmod p1.2.2 v0.mCols) v0 p1.1 h1)) (fun x4 hx4 h => ?_)
     refine avb ?_
     exact lbk hfp1 h
    ·exact lbk hfp1 h
   ·refine avb ?_
    have h := finr hfp1 h
    refine cut_at (p1.2.1) (some_in h) ?_
    exact weak_by
  rintro t5 rfl
  have h : _ = some _ := gt5
  refine avb ?_
  cases h;exact eq_by

theorem i_IsConnected_ok (N : Nat) (v0 : Gx.Grid) {r : Bool} (h : i_IsConnected N v0 = some r) : Pure Tryz.prog 180 [DV.agg (Gx.Grid.enc v0)] (DV.one (D.b r)) := by
 refine pure_of_walk Tryz.tok Tryz.mixed Tryz.func180 (by kernel_rfl) fun W => ?_
 unfold i_IsConnected at h
 refine avb ?_
 refine plb ?_;refine call_sel (E := fun (x : Int) => DV.one (D.i x)) h (fun x1 h1 => (i_PartsOf_ok N v0 h1)) (fun x1 hx1 h => ?_)
 refine avb ?_
 cases h;exact eq_by

theorem g_slices_Index_Sint_int_ok (N : Nat) (v0 : List (Int)) (v1 : Int) {r : Int} (h : g_slices_Index_Sint_int N v0 v1 = some r) : Pure Tryz.prog 231 [DV.one (D.sl 1 (List.map Gx.encI v0)), DV.one (D.i v1)] (DV.one (D.i r)) := by
 refine pure_of_walk Tryz.tok Tryz.mixed Tryz.func231 (by kernel_rfl) fun W => ?_
 unfold g_slices_Index_Sint_int at h
 refine ab0 ?_
 refine W.r_seq ?_
 refine ab0 ?_
 obtain ⟨zt2, h, gt2⟩ := cutb_some h
 refine W.r_cut (fun (t2 : Unit) => ⟨[], [], 1000⟩) (fun t => .nx t = zt2) ?_ ?_
 ·refine avb ?_
  refine lns (v0.length : Int) ?_
  refine avb ?_
  refine loop_lp (fun (p1 : Int) => ⟨[(0, .d (D.sl 1 (List.map Gx.encI v0))), (1, .d (D.i v1)), (7, .d (D.i (v0.length : Int))), (8, .d (D.i p1))], [], 1000⟩) h ?_ ?_
  ·exact weak_by
  intro np1 p1 yp1 h hfp1
  unfold g_slices_Index_Sint_int_L1 at h
  refine avb ?_
  refine brb h ?_ ?_<;>intro _ h
  ·refine idx_sel h (fun x1 hx1 h => ?_)
   refine avb ?_
   refine brb h ?_ ?_<;>intro _ h
   ·have h := finr hfp1 h
    have h := cutr gt2 h
    cases h;exact eq_by
   ·exact lbk hfp1 h
  ·have h := finr hfp1 h
   refine cut_at (()) (some_in h) ?_
   exact weak_by
 rintro t2 rfl
 have h : _ = some _ := gt2
 refine avb ?_
 cases h;exact eq_by

theorem g_slices_Contains_Sint_int_ok (N : Nat) (v0 : List (Int)) (v1 : Int) {r : Bool} (h : g_slices_Contains_Sint_int N v0 v1 = some r) : Pure Tryz.prog 226 [DV.one (D.sl 1 (List.map Gx.encI v0)), DV.one (D.i v1)] (DV.one (D.b r)) := by
 refine pure_of_walk Tryz.tok Tryz.mixed Tryz.func226 (by kernel_rfl) fun W => ?_
 unfold g_slices_Contains_Sint_int at h
 refine avb ?_
 refine plb ?_;refine call_sel (E := fun (x : Int) => DV.one (D.i x)) h (fun x1 h1 => (g_slices_Index_Sint_int_ok N v0 v1 h1)) (fun x1 hx1 h => ?_)
 refine avb ?_
 cases h;exact eq_by

theorem i_SlotsAt_ok (N : Nat) (v0 : Gx.Grid) (v1 : Int) {r : (List (Int))} (h : i_SlotsAt N v0 v1 = some r) : Pure Tryz.prog 221 [DV.agg (Gx.Grid.enc v0), DV.one (D.i v1)] (DV.one (D.sl 1 (List.map Gx.encI r))) := by
 refine pure_of_walk Tryz.tok Tryz.mixed Tryz.func221 (by kernel_rfl) fun W => ?_
 unfold i_SlotsAt at h
 refine ab0 ?_
 refine W.r_seq ?_
 refine ab0 ?_
 refine W.r_seq ?_
 refine ab0 ?_
 obtain ⟨zt4, h, gt4⟩ := bnd_some h
 refine W.r_cut (fun (t4 : (List (Int))) => ⟨[(5, .sl 1)], [(1, some (.arr 1 (List.map Gx.encI t4) true))], 1000⟩) (fun t => t = zt4) ?_ ?_
 ·refine avb ?_
  refine plb ?_;refine call_sel (E := fun (x : (List (List (Int)))) => DV.one (D.sl 1 (List.map (Gx.encL 1 Gx.encI) x))) h (fun x1 h1 => (i_layout_ok N v0 h1)) (fun x1 hx1 h => ?_)
  refine avb ?_
  refine lns (x1.length : Int) ?_
  refine avb ?_
  refine loop_lp (fun (p1 : (List (Int)) × Int) => ⟨[(1, .d (D.i v1)), (5, .sl 1), (9, .sl 2), (10, .d (D.i (x1.length : Int))), (11, .d (D.i p1.2))], [(1, some (.arr 1 (List.map Gx.encI p1.1) true)), (2, some (.arr 1 (List.map (Gx.encL 1 Gx.encI) x1) true))], 1000⟩) h ?_ ?_
  ·exact weak_by
  intro np1 p1 yp1 h hfp1
  unfold i_SlotsAt_L1 at h
  refine avb ?_
  refine brb h ?_ ?_<;>intro _ h
  ·refine idxp_sel h (fun x2 hx2 h => ?_)
   refine avb ?_
   refine ldp_sel hx2 ?_
   refine avb ?_
   refine plb ?_;refine call_sel (E := fun (x : Bool) => DV.one (D.b x)) h (fun x3 h1 => (g_slices_Contains_Sint_int_ok N x2 v1 h1)) (fun x3 hx3 h => ?_)
   refine avb ?_
   refine brb h ?_ ?_<;>intro _ h
   ·refine app_sel h (app_ok (by (first|rfl|simp [sub])) (by (first|rfl|simp [sub])) (by decide)) (by (intro h; cases h)) (fun h => ?_)
    refine avb ?_
    exact lbk hfp1 h
   ·exact lbk hfp1 h
  ·have h := finr hfp1 h
   refine cut_at (p1.1) (some_in h) ?_
   exact weak_by
 rintro t4 rfl
 have h : _ = some _ := gt4
 refine avb ?_
 cases h;exact eq_by

theorem i_IsChecked_ok (N : Nat) (v0 : Gx.Grid) (v1 : Int) {r : Bool} (h : i_IsChecked N v0 v1 = some r) : Pure Tryz.prog 205 [DV.agg (Gx.Grid.enc v0), DV.one (D.i v1)] (DV.one (D.b r)) := by
 refine pure_of_walk Tryz.tok Tryz.mixed Tryz.func205 (by kernel_rfl) fun W => ?_
 unfold i_IsChecked at h
 refine avb ?_
 refine plb ?_;refine call_sel (E := fun (x : (List (Int))) => DV.one (D.sl 1 (List.map Gx.encI x))) h (fun x1 h1 => (i_SlotsAt_ok N v0 v1 h1)) (fun x1 hx1 h => ?_)
 refine avb ?_
 refine lns (x1.length : Int) ?_
 refine avb ?_
 cases h;exact eq_by

theorem i_UncheckedIn_ok (N : Nat) (v0 : Gx.Grid) (v1 : Int) {r : Int} (h : i_UncheckedIn N v0 v1 = some r) : Pure Tryz.prog 181 [DV.agg (Gx.Grid.enc v0), DV.one (D.i v1)] (DV.one (D.i r)) := by
 refine pure_of_walk Tryz.tok Tryz.mixed Tryz.func181 (by kernel_rfl) fun W => ?_
 unfold i_UncheckedIn at h
 refine avb ?_
 refine plb ?_;refine call_sel (E := fun (x : (List (List (Int)))) => DV.one (D.sl 1 (List.map (Gx.encL 1 Gx.encI) x))) h (fun x1 h1 => (i_layout_ok N v0 h1)) (fun x1 hx1 h => ?_)
 refine avb ?_
 refine lns (x1.length : Int) ?_
 refine avb ?_
 refine plb ?_;refine call_sel (E := fun (x : Bool) => DV.one (D.b x)) h (fun x2 h1 => (i_at_ok N v1 (x1.length : Int) h1)) (fun x2 hx2 h => ?_)
 refine avb ?_
 refine br_sel h (fun _ h => ?_) (fun _ h => ?_)
 ·refine avb ?_
  cases h;exact eq_by
 ·refine ab0 ?_
  refine W.r_seq ?_
  refine ab0 ?_
  obtain ⟨zt6, h, gt6⟩ := bnd_some h
  refine W.r_cut (fun (t6 : Int) => ⟨[(6, .d (D.i t6))], [], 1000⟩) (fun t => t = zt6) ?_ ?_
  ·refine avb ?_
   refine idxp_sel h (fun x3 hx3 h => ?_)
   refine avb ?_
   refine ldp_sel hx3 ?_
   refine avb ?_
   refine lns (x3.length : Int) ?_
   refine avb ?_
   refine loop_lp (fun (p1 : Int × Int) => ⟨[(2, .ptr 1 0 0), (6, .d (D.i p1.1)), (19, .d (D.sl 1 (List.map Gx.encI x3))), (20, .d (D.i (x3.length : Int))), (21, .d (D.i p1.2))], [(1, some (.box [.d (D.i v0.mRows), .d (D.i v0.mCols), .d (D.s v0.mCells)]))], 1000⟩) h ?_ ?_
   ·exact weak_by
   intro np1 p1 yp1 h hfp1
   unfold i_UncheckedIn_L1 at h
   refine avb ?_
   refine brb h ?_ ?_<;>intro _ h
   ·refine idx_sel h (fun x4 hx4 h => ?_)
    refine avb ?_
    refine plb ?_;refine call_sel (E := fun (x : Bool) => DV.one (D.b x)) h (fun x5 h1 => (i_IsChecked_ok N v0 x4 h1)) (fun x5 hx5 h => ?_)
    refine avb ?_
    refine brb h ?_ ?_<;>intro _ h
    ·exact lbk hfp1 h
    ·exact lbk hfp1 h
   ·have h := finr hfp1 h
    refine cut_at (p1.1) (some_in h) ?_
    exact weak_by
  rintro t6 rfl
  have h : _ = some _ := gt6
  refine avb ?_
  cases h;exact eq_by

theorem i_isLetter_ok (N : Nat) (v0 : Int) {r : Bool} (h : i_isLetter N v0 = some r) : Pure Tryz.prog 150 [DV.one (D.u8 v0)] (DV.one (D.b r)) := by
 refine pure_of_walk Tryz.tok Tryz.mixed Tryz.func150 (by kernel_rfl) fun W => ?_
 unfold i_isLetter at h
 refine avb ?_
 refine brb h ?_ ?_<;>intro _ h
 ·cases h;exact eq_by
 ·cases h;exact eq_by

theorem i_alone_ok (N : Nat) (v0 : Gx.Grid) (v1 : List UInt8) {r : Bool} (h : i_alone N v0 v1 = some r) : Pure Tryz.prog 182 [DV.agg (Gx.Grid.enc v0), DV.one (D.s v1)] (DV.one (D.b r)) := by
 refine pure_of_walk Tryz.tok Tryz.mixed Tryz.func182 (by kernel_rfl) fun W => ?_
 unfold i_alone at h
 refine ab0 ?_
 refine W.r_seq ?_
 refine ab0 ?_
 refine W.r_seq ?_
 refine ab0 ?_
 obtain ⟨zt5, h, gt5⟩ := bnd_some h
 refine W.r_cut (fun (t5 : (List (Int × Int))) => ⟨[(1, .d (D.s v1)), (2, .ptr 1 0 0), (5, .sl 2)], [(1, some (.box [.d (D.i v0.mRows), .d (D.i v0.mCols), .d (D.s v0.mCells)])), (2, some (.mp t5))], 1000⟩) (fun t => t = zt5) ?_ ?_
 ·refine avb ?_
  refine plb ?_;refine call_sel (E := fun (x : (List (List (Int)))) => DV.one (D.sl 1 (List.map (Gx.encL 1 Gx.encI) x))) h (fun x1 h1 => (i_layout_ok N v0 h1)) (fun x1 hx1 h => ?_)
  refine avb ?_
  refine lns (x1.length : Int) ?_
  refine avb ?_
  refine loop_lp (fun (p1 : (List (Int × Int)) × Int) => ⟨[(1, .d (D.s v1)), (2, .ptr 1 0 0), (5, .sl 2), (13, .sl 3), (14, .d (D.i (x1.length : Int))), (15, .d (D.i p1.2))], [(1, some (.box [.d (D.i v0.mRows), .d (D.i v0.mCols), .d (D.s v0.mCells)])), (2, some (.mp p1.1)), (3, some (.arr 1 (List.map (Gx.encL 1 Gx.encI) x1) true))], 1000⟩) h ?_ ?_
  ·exact weak_by
  intro np1 p1 yp1 h hfp1
  unfold i_alone_L1 at h
  refine avb ?_
  refine br_sel h (fun _ h => ?_) (fun _ h => ?_)
  ·refine ab0 ?_
   obtain ⟨zt4, h, gt4⟩ := bnd_some h
   refine W.r_cut (fun (t4 : (List (Int × Int))) => ⟨[(1, .d (D.s v1)), (2, .ptr 1 0 0), (5, .sl 2), (13, .sl 3), (14, .d (D.i (x1.length : Int))), (15, .d (D.i p1.2))], [(1, some (.box [.d (D.i v0.mRows), .d (D.i v0.mCols), .d (D.s v0.mCells)])), (2, some (.mp t4)), (3, some (.arr 1 (List.map (Gx.encL 1 Gx.encI) x1) true))], 1000⟩) (fun t => t = zt4) ?_ ?_
   ·refine avb ?_
    refine idxp_sel h (fun x2 hx2 h => ?_)
    refine avb ?_
    refine ldp_sel hx2 ?_
    refine avb ?_
    refine lns (x2.length : Int) ?_
    refine avb ?_
    refine loop_lp (fun (p2 : (List (Int × Int)) × Int) => ⟨[(1, .d (D.s v1)), (2, .ptr 1 0 0), (5, .sl 2), (13, .sl 3), (14, .d (D.i (x1.length : Int))), (15, .d (D.i p1.2)), (19, .d (D.sl 1 (List.map Gx.encI x2))), (20, .d (D.i (x2.length : Int))), (21, .d (D.i p2.2))], [(1, some (.box [.d (D.i v0.mRows), .d (D.i v0.mCols), .d (D.s v0.mCells)])), (2, some (.mp p2.1)), (3, some (.arr 1 (List.map (Gx.encL 1 Gx.encI) x1) true))], 1000⟩) h ?_ ?_
    ·exact weak_by
    intro np2 p2 yp2 h hfp2
    unfold i_alone_L2 at h
    refine avb ?_
    refine brb h ?_ ?_<;>intro _ h
    ·refine idx_sel h (fun x3 hx3 h => ?_)
     refine avb ?_
     exact lbk hfp2 h
    ·have h := finr hfp2 h
     refine cut_at (p2.1) (some_in h) ?_
     exact weak_by
   rintro t4 rfl
   have h : _ = some _ := gt4
   refine avb ?_
   exact lbk hfp1 h
  ·refine avb ?_
   have h := finr hfp1 h
   refine cut_at (p1.1) (some_in h) ?_
   exact weak_by
 rintro t5 rfl
 have h : _ = some _ := gt5
 refine ab0 ?_
 obtain ⟨zt7, h, gt7⟩ := cutb_some h
 refine W.r_cut (fun (t7 : Unit) => ⟨[], [], 1000⟩) (fun t => .nx t = zt7) ?_ ?_
 ·refine avb ?_
  refine lns (v0.mCells.length : Int) ?_
  refine avb ?_
  refine loop_lp (fun (p3 : Int) => ⟨[(1, .d (D.s v1)), (2, .ptr 1 0 0), (5, .sl 2), (31, .d (D.i (v0.mCells.length : Int))), (32, .d (D.i p3))], [(1, some (.box [.d (D.i v0.mRows), .d (D.i v0.mCols), .d (D.s v0.mCells)])), (2, some (.mp t5))], 1000⟩) h ?_ ?_
  ·exact weak_by
  intro np3 p3 yp3 h hfp3
  unfold i_alone_L3 at h
  refine avb ?_
  refine brb h ?_ ?_<;>intro _ h
  ·refine chk_sel h (fun q => q) (fun h => ?_)
   refine avb ?_
   refine brb h ?_ ?_<;>intro _ h
   ·refine brb h ?_ ?_<;>intro _ h
    ·refine chk_sel h (fun q => q) (fun h => ?_)
     refine avb ?_
     refine plb ?_;refine call_sel (E := fun (x : Bool) => DV.one (D.b x)) h (fun x6 h1 => (i_isLetter_ok N (byteI v1 p3) h1)) (fun x6 hx6 h => ?_)
     refine avb ?_
     refine brb h ?_ ?_<;>intro _ h
     ·have h := finr hfp3 h
      have h := cutr gt7 h
      cases h;exact eq_by
     ·exact lbk hfp3 h
    ·exact lbk hfp3 h
   ·exact lbk hfp3 h
  ·have h := finr hfp3 h
   refine cut_at (()) (some_in h) ?_
   exact weak_by
 rintro t7 rfl
 have h : _ = some _ := gt7
 refine avb ?_
 cases h;exact eq_by

theorem i_FormOf_ok (N : Nat) (v0 : Gx.Grid) {r : Int} (h : i_FormOf N v0 = some r) : Pure Tryz.prog 144 [DV.agg (Gx.Grid.enc v0)] (DV.one (D.i r)) := by
 refine pure_of_walk Tryz.tok Tryz.mixed Tryz.func144 (by kernel_rfl) fun W => ?_
 unfold i_FormOf at h
 refine avb ?_
 refine plb ?_;refine call_sel (E := fun (x : Bool) => DV.one (D.b x)) h (fun x1 h1 => (i_IsGrid_ok N v0 h1)) (fun x1 hx1 h => ?_)
 refine avb ?_
 refine brb h ?_ ?_<;>intro _ h
 ·cases h;exact eq_by
 ·refine plb ?_;refine call_sel (E := fun (x : Bool) => DV.one (D.b x)) h (fun x2 h1 => (i_IsSymmetric_ok N v0 h1)) (fun x2 hx2 h => ?_)
  refine avb ?_
  refine brb h ?_ ?_<;>intro _ h
  ·cases h;exact eq_by
  ·refine plb ?_;refine call_sel (E := fun (x : Bool) => DV.one (D.b x)) h (fun x3 h1 => (i_IsConnected_ok N v0 h1)) (fun x3 hx3 h => ?_)
   refine avb ?_
   refine brb h ?_ ?_<;>intro _ h
   ·cases h;exact eq_by
   ·refine plb ?_;refine call_sel (E := fun (x : (List (Gx.Slot))) => DV.one (D.sl 4 (List.map Gx.Slot.enc x))) h (fun x4 h1 => (i_SlotsOf_ok N v0 h1)) (fun x4 hx4 h => ?_)
    refine ab0 ?_
    obtain ⟨zt6, h, gt6⟩ := cutb_some h
    refine W.r_cut (fun (t6 : Unit) => ⟨[(1, .ptr 1 0 0), (3, .sl 2)], [(1, some (.box [.d (D.i v0.mRows), .d (D.i v0.mCols), .d (D.s v0.mCells)])), (2, some (.arr 4 (List.map Gx.Slot.enc x4) true))], 1000⟩) (fun t => .nx t = zt6) ?_ ?_
    ·refine avb ?_
     refine lns (x4.length : Int) ?_
     refine avb ?_
     refine loop_lp (fun (p1 : Int) => ⟨[(1, .ptr 1 0 0), (3, .sl 2), (22, .sl 2), (23, .d (D.i (x4.length : Int))), (24, .d (D.i p1))], [(1, some (.box [.d (D.i v0.mRows), .d (D.i v0.mCols), .d (D.s v0.mCells)])), (2, some (.arr 4 (List.map Gx.Slot.enc x4) true))], 1000⟩) h ?_ ?_
     ·exact weak_by
     intro np1 p1 yp1 h hfp1
     unfold i_FormOf_L1 at h
     refine avb ?_
     refine brb h ?_ ?_<;>intro _ h
     ·refine idxp_sel h (fun x5 hx5 h => ?_)
      refine avb ?_
      refine ldp_sel hx5 ?_
      refine avb ?_
      refine brb h ?_ ?_<;>intro _ h
      ·have h := finr hfp1 h
       have h := cutr gt6 h
       cases h;exact eq_by
      ·exact lbk hfp1 h
     ·have h := finr hfp1 h
      refine cut_at (()) (some_in h) ?_
      exact weak_by
    rintro t6 rfl
    have h : _ = some _ := gt6
    refine ab0 ?_
    obtain ⟨zt9, h, gt9⟩ := cutb_some h
    refine W.r_cut (fun (t9 : Unit) => ⟨[(1, .ptr 1 0 0)], [(1, some (.box [.d (D.i v0.mRows), .d (D.i v0.mCols), .d (D.s v0.mCells)]))], 1000⟩) (fun t => .nx t = zt9) ?_ ?_
    ·refine avb ?_
     refine lns (x4.length : Int) ?_
     refine avb ?_
     refine loop_lp (fun (p2 : Int) => ⟨[(1, .ptr 1 0 0), (32, .sl 2), (33, .d (D.i (x4.length : Int))), (34, .d (D.i p2))], [(1, some (.box [.d (D.i v0.mRows), .d (D.i v0.mCols), .d (D.s v0.mCells)])), (2, some (.arr 4 (List.map Gx.Slot.enc x4) true))], 1000⟩) h ?_ ?_
     ·exact weak_by
     intro np2 p2 yp2 h hfp2
     unfold i_FormOf_L2 at h
     refine avb ?_
     refine brb h ?_ ?_<;>intro _ h
     ·refine idxp_sel h (fun x7 hx7 h => ?_)
      refine avb ?_
      refine ldp_sel hx7 ?_
      refine avb ?_
      refine plb ?_;refine call_sel (E := fun (x : Int) => DV.one (D.i x)) h (fun x8 h1 => (i_UncheckedIn_ok N v0 p2 h1)) (fun x8 hx8 h => ?_)
      refine avb ?_
      refine brb h ?_ ?_<;>intro _ h
      ·have h := finr hfp2 h
       have h := cutr gt9 h
       cases h;exact eq_by
      ·exact lbk hfp2 h
     ·have h := finr hfp2 h
      refine cut_at (()) (some_in h) ?_
      exact weak_by
    rintro t9 rfl
    have h : _ = some _ := gt9
    refine avb ?_
    refine plb ?_;refine call_sel (E := fun (x : Bool) => DV.one (D.b x)) h (fun x10 h1 => (i_alone_ok N v0 v0.mCells h1)) (fun x10 hx10 h => ?_)
    refine avb ?_
    refine brb h ?_ ?_<;>intro _ h
    ·cases h;exact eq_by
    ·cases h;exact eq_by

theorem i_IsFill_ok (N : Nat) (v0 : Gx.Grid) (v1 : List UInt8) {r : Bool} (h : i_IsFill N v0 v1 = some r) : Pure Tryz.prog 145 [DV.agg (Gx.Grid.enc v0), DV.one (D.s v1)] (DV.one (D.b r)) := by
 refine pure_of_walk Tryz.tok Tryz.mixed Tryz.func145 (by kernel_rfl) fun W => ?_
 unfold i_IsFill at h
 refine avb ?_
 refine plb ?_;refine call_sel (E := fun (x : Bool) => DV.one (D.b x)) h (fun x1 h1 => (i_IsGrid_ok N v0 h1)) (fun x1 hx1 h => ?_)
 refine avb ?_
 refine brb h ?_ ?_<;>intro _ h
 ·cases h;exact eq_by
 ·refine lns (v1.length : Int) ?_
  refine avb ?_
  refine lns (v0.mCells.length : Int) ?_
  refine avb ?_
  refine br_sel h (fun _ h => ?_) (fun _ h => ?_)
  ·refine avb ?_
   cases h;exact eq_by
  ·refine ab0 ?_
   obtain ⟨zt3, h, gt3⟩ := cutb_some h
   refine W.r_cut (fun (t3 : Unit) => ⟨[], [], 1000⟩) (fun t => .nx t = zt3) ?_ ?_
   ·refine avb ?_
    refine lns (v1.length : Int) ?_
    refine avb ?_
    refine loop_lp (fun (p1 : Int) => ⟨[(1, .d (D.s v1)), (2, .ptr 1 0 0), (18, .d (D.i (v1.length : Int))), (19, .d (D.i p1))], [(1, some (.box [.d (D.i v0.mRows), .d (D.i v0.mCols), .d (D.s v0.mCells)]))], 1000⟩) h ?_ ?_
    ·exact weak_by
    intro np1 p1 yp1 h hfp1
    unfold i_IsFill_L1 at h
    refine avb ?_
    refine brb h ?_ ?_<;>intro _ h
    ·refine chk_sel h (fun q => q) (fun h => ?_)
     refine avb ?_
     refine chk_sel h (fun q => q) (fun h => ?_)
     refine avb ?_
     refine brb h ?_ ?_<;>intro _ h
     ·have h := finr hfp1 h
      have h := cutr gt3 h
      cases h;exact eq_by
     ·refine chk_sel h (fun q => q) (fun h => ?_)
      refine avb ?_
      refine brb h ?_ ?_<;>intro _ h
      ·refine chk_sel h (fun q => q) (fun h => ?_)
       refine avb ?_
       refine brb h ?_ ?_<;>intro _ h
       ·refine chk_sel h (fun q => q) (fun h => ?_)
        refine avb ?_
        refine plb ?_;refine call_sel (E := fun (x : Bool) => DV.one (D.b x)) h (fun x2 h1 => (i_isLetter_ok N (byteI v1 p1) h1)) (fun x2 hx2 h => ?_)
        refine avb ?_
        refine brb h ?_ ?_<;>intro _ h
        ·have h := finr hfp1 h
         have h := cutr gt3 h
         cases h;exact eq_by
        ·exact lbk hfp1 h
       ·exact lbk hfp1 h
      ·exact lbk hfp1 h
    ·have h := finr hfp1 h
     refine cut_at (()) (some_in h) ?_
     exact weak_by
   rintro t3 rfl
   have h : _ = some _ := gt3
   refine avb ?_
   cases h;exact eq_by

theorem i_IsWord_ok (N : Nat) (v0 : List UInt8) {r : Bool} (h : i_IsWord N v0 = some r) : Pure Tryz.prog 108 [DV.one (D.s v0)] (DV.one (D.b r)) := by
 refine pure_of_walk Tryz.tok Tryz.mixed Tryz.func108 (by kernel_rfl) fun W => ?_
 unfold i_IsWord at h
 refine avb ?_
 refine lns (v0.length : Int) ?_
 refine avb ?_
 refine plb ?_;refine call_sel (E := fun (x : Bool) => DV.one (D.b x)) h (fun x1 h1 => (i_InRange_ok N (v0.length : Int) 1 8 h1)) (fun x1 hx1 h => ?_)
 refine avb ?_
 refine br_sel h (fun _ h => ?_) (fun _ h => ?_)
 ·refine avb ?_
  cases h;exact eq_by
 ·refine ab0 ?_
  obtain ⟨zt3, h, gt3⟩ := cutb_some h
  refine W.r_cut (fun (t3 : Unit) => ⟨[], [], 1000⟩) (fun t => .nx t = zt3) ?_ ?_
  ·refine avb ?_
   refine lns (v0.length : Int) ?_
   refine avb ?_
   refine loop_lp (fun (p1 : Int) => ⟨[(0, .d (D.s v0)), (9, .d (D.i (v0.length : Int))), (10, .d (D.i p1))], [], 1000⟩) h ?_ ?_
   ·exact weak_by
   intro np1 p1 yp1 h hfp1
   unfold i_IsWord_L1 at h
   refine avb ?_
   refine brb h ?_ ?_<;>intro _ h
   ·refine chk_sel h (fun q => q) (fun h => ?_)
    refine avb ?_
    refine plb ?_;refine call_sel (E := fun (x : Bool) => DV.one (D.b x)) h (fun x2 h1 => (i_isLetter_ok N (byteI v0 p1) h1)) (fun x2 hx2 h => ?_)
    refine avb ?_
    refine brb h ?_ ?_<;>intro _ h
    ·have h := finr hfp1 h
     have h := cutr gt3 h
     cases h;exact eq_by
    ·exact lbk hfp1 h
   ·have h := finr hfp1 h
    refine cut_at (()) (some_in h) ?_
    exact weak_by
  rintro t3 rfl
  have h : _ = some _ := gt3
  refine avb ?_
  cases h;exact eq_by

theorem i_needsWord_ok (N : Nat) (v0 : Int) {r : Bool} (h : i_needsWord N v0 = some r) : Pure Tryz.prog 206 [DV.one (D.i v0)] (DV.one (D.b r)) := by
 refine pure_of_walk Tryz.tok Tryz.mixed Tryz.func206 (by kernel_rfl) fun W => ?_
 unfold i_needsWord at h
 refine avb ?_
 refine brb h ?_ ?_<;>intro _ h
 ·cases h;exact eq_by
 ·cases h;exact eq_by

theorem i_isPair_ok (N : Nat) (v0 : Int) {r : Bool} (h : i_isPair N v0 = some r) : Pure Tryz.prog 207 [DV.one (D.i v0)] (DV.one (D.b r)) := by
 refine pure_of_walk Tryz.tok Tryz.mixed Tryz.func207 (by kernel_rfl) fun W => ?_
 unfold i_isPair at h
 refine avb ?_
 refine brb h ?_ ?_<;>intro _ h
 ·cases h;exact eq_by
 ·cases h;exact eq_by

theorem i_IsPlay_ok (N : Nat) (v0 : List (Gx.Step)) {r : Bool} (h : i_IsPlay N v0 = some r) : Pure Tryz.prog 184 [DV.one (D.sl 4 (List.map Gx.Step.enc v0))] (DV.one (D.b r)) := by
 refine pure_of_walk Tryz.tok Tryz.mixed Tryz.func184 (by kernel_rfl) fun W => ?_
 unfold i_IsPlay at h
 refine avb ?_
 refine lns (v0.length : Int) ?_
 refine avb ?_
 refine plb ?_;refine call_sel (E := fun (x : Bool) => DV.one (D.b x)) h (fun x1 h1 => (i_InRange_ok N (v0.length : Int) 1 9 h1)) (fun x1 hx1 h => ?_)
 refine avb ?_
 refine br_sel h (fun _ h => ?_) (fun _ h => ?_)
 ·refine avb ?_
  cases h;exact eq_by
 ·refine ab0 ?_
  obtain ⟨zt13, h, gt13⟩ := cutb_some h
  refine W.r_cut (fun (t13 : Unit) => ⟨[], [], 1000⟩) (fun t => .nx t = zt13) ?_ ?_
  ·refine avb ?_
   refine lns (v0.length : Int) ?_
   refine avb ?_
   refine loop_lp (fun (p1 : Int) => ⟨[(0, .d (D.sl 4 (List.map Gx.Step.enc v0))), (9, .d (D.sl 4 (List.map Gx.Step.enc v0))), (10, .d (D.i (v0.length : Int))), (11, .d (D.i p1))], [], 1000⟩) h ?_ ?_
   ·exact weak_by
   intro np1 p1 yp1 h hfp1
   unfold i_IsPlay_L1 at h
   refine avb ?_
   refine brb h ?_ ?_<;>intro _ h
   ·refine idx_sel h (fun x2 hx2 h => ?_)
    refine avb ?_
    refine plb ?_;refine call_sel (E := fun (x : Bool) => DV.one (D.b x)) h (fun x3 h1 => (i_InRange_ok N x2.mKind 1 9 h1)) (fun x3 hx3 h => ?_)
    refine avb ?_
    refine brb h ?_ ?_<;>intro _ h
    ·have h := finr hfp1 h
     have h := cutr gt13 h
     cases h;exact eq_by
    ·refine br_sel h (fun _ h => ?_) (fun _ h => ?_)
     ·refine avb ?_
      refine plb ?_;refine call_sel (E := fun (x : Bool) => DV.one (D.b x)) h (fun x4 h1 => (i_IsWord_ok N x2.mWord h1)) (fun x4 hx4 h => ?_)
      refine avb ?_
      refine brb h ?_ ?_<;>intro _ h
      ·have h := finr hfp1 h
       have h := cutr gt13 h
       cases h;exact eq_by
      ·refine brb h ?_ ?_<;>intro _ h
       ·have h := finr hfp1 h
        have h := cutr gt13 h
        cases h;exact eq_by
       ·refine brb h ?_ ?_<;>intro _ h
        ·have h := finr hfp1 h
         have h := cutr gt13 h
         cases h;exact eq_by
        ·exact lbk hfp1 h
     ·refine ab0 ?_
      obtain ⟨zt8, h, gt8⟩ := cutb_some h
      refine W.r_cut (fun (t8 : Unit) => ⟨[(0, .d (D.sl 4 (List.map Gx.Step.enc v0))), (3, .d (D.i p1)), (4, .ptr 1 0 0), (9, .d (D.sl 4 (List.map Gx.Step.enc v0))), (10, .d (D.i (v0.length : Int))), (11, .d (D.i p1))], [(1, some (.box [.d (D.i x2.mKind), .d (D.s x2.mWord), .d (D.i x2.mA), .d (D.i x2.mB)]))], 1000⟩) (fun t => .nx t = zt8) ?_ ?_
      ·refine avb ?_
       refine brb h ?_ ?_<;>intro _ h
       ·have h := cutr gt8 h
        have h := finr hfp1 h
        have h := cutr gt13 h
        cases h;exact eq_by
       ·refine plb ?_;refine call_sel (E := fun (x : Bool) => DV.one (D.b x)) h (fun x5 h1 => (i_at_ok N x2.mA p1 h1)) (fun x5 hx5 h => ?_)
        refine avb ?_
        refine brb h ?_ ?_<;>intro _ h
        ·have h := cutr gt8 h
         have h := finr hfp1 h
         have h := cutr gt13 h
         cases h;exact eq_by
        ·refine plb ?_;refine call_sel (E := fun (x : Bool) => DV.one (D.b x)) h (fun x6 h1 => (i_needsWord_ok N x2.mKind h1)) (fun x6 hx6 h => ?_)
         refine avb ?_
         refine brb h ?_ ?_<;>intro _ h
         ·refine idx_sel h (fun x7 hx7 h => ?_)
          refine avb ?_
          refine brb h ?_ ?_<;>intro _ h
          ·have h := cutr gt8 h
           have h := finr hfp1 h
           have h := cutr gt13 h
           cases h;exact eq_by
          ·refine cut_at (()) (some_in h) ?_
           exact weak_by
         ·refine cut_at (()) (some_in h) ?_
          exact weak_by
      rintro t8 rfl
      have h : _ = some _ := gt8
      refine avb ?_
      refine plb ?_;refine call_sel (E := fun (x : Bool) => DV.one (D.b x)) h (fun x9 h1 => (i_isPair_ok N x2.mKind h1)) (fun x9 hx9 h => ?_)
      refine avb ?_
      refine brb h ?_ ?_<;>intro _ h
      ·refine plb ?_;refine call_sel (E := fun (x : Bool) => DV.one (D.b x)) h (fun x10 h1 => (i_at_ok N x2.mB p1 h1)) (fun x10 hx10 h => ?_)
       refine avb ?_
       refine brb h ?_ ?_<;>intro _ h
       ·have h := finr hfp1 h
        have h := cutr gt13 h
        cases h;exact eq_by
       ·refine plb ?_;refine call_sel (E := fun (x : Bool) => DV.one (D.b x)) h (fun x11 h1 => (i_isPair_ok N x2.mKind h1)) (fun x11 hx11 h => ?_)
        refine avb ?_
        refine brb h ?_ ?_<;>intro _ h
        ·refine brb h ?_ ?_<;>intro _ h
         ·have h := finr hfp1 h
          have h := cutr gt13 h
          cases h;exact eq_by
         ·exact lbk hfp1 h
        ·exact lbk hfp1 h
      ·refine plb ?_;refine call_sel (E := fun (x : Bool) => DV.one (D.b x)) h (fun x12 h1 => (i_isPair_ok N x2.mKind h1)) (fun x12 hx12 h => ?_)
       refine avb ?_
       refine brb h ?_ ?_<;>intro _ h
       ·refine brb h ?_ ?_<;>intro _ h
        ·have h := finr hfp1 h
         have h := cutr gt13 h
         cases h;exact eq_by
        ·exact lbk hfp1 h
       ·exact lbk hfp1 h
   ·have h := finr hfp1 h
    refine cut_at (()) (some_in h) ?_
    exact weak_by
  rintro t13 rfl
  have h : _ = some _ := gt13
  refine avb ?_
  cases h;exact eq_by

theorem i_IsClue_ok (N : Nat) (v0 : Gx.Clue) {r : Bool} (h : i_IsClue N v0 = some r) : Pure Tryz.prog 148 [DV.agg (Gx.Clue.enc v0)] (DV.one (D.b r)) := by
 refine pure_of_walk Tryz.tok Tryz.mixed Tryz.func148 (by kernel_rfl) fun W => ?_
 unfold i_IsClue at h
 refine avb ?_
 refine plb ?_;refine call_sel (E := fun (x : Bool) => DV.one (D.b x)) h (fun x1 h1 => (i_InRange_ok N v0.mSense 1 99 h1)) (fun x1 hx1 h => ?_)
 refine avb ?_
 refine brb h ?_ ?_<;>intro _ h
 ·refine plb ?_;refine call_sel (E := fun (x : Bool) => DV.one (D.b x)) h (fun x2 h1 => (i_IsPlay_ok N v0.mPlay h1)) (fun x2 hx2 h => ?_)
  refine avb ?_
  cases h;exact eq_by
 ·cases h;exact eq_by

theorem g_slices_Equal_Simpl_Step_impl_Step_ok (N : Nat) (v0 : List (Gx.Step)) (v1 : List (Gx.Step)) {r : Bool} (h : g_slices_Equal_Simpl_Step_impl_Step N v0 v1 = some r) : Pure Tryz.prog 185 [DV.one (D.sl 4 (List.map Gx.Step.enc v0)), DV.one (D.sl 4 (List.map Gx.Step.enc v1))] (DV.one (D.b r)) := by
 refine pure_of_walk Tryz.tok Tryz.mixed Tryz.func185 (by kernel_rfl) fun W => ?_
 unfold g_slices_Equal_Simpl_Step_impl_Step at h
 refine avb ?_
 refine lns (v0.length : Int) ?_
 refine avb ?_
 refine lns (v1.length : Int) ?_
 refine avb ?_
 refine br_sel h (fun _ h => ?_) (fun _ h => ?_)
 ·refine avb ?_
  cases h;exact eq_by
 ·refine ab0 ?_
  obtain ⟨zt3, h, gt3⟩ := cutb_some h
  refine W.r_cut (fun (t3 : Unit) => ⟨[], [], 1000⟩) (fun t => .nx t = zt3) ?_ ?_
  ·refine avb ?_
   refine lns (v0.length : Int) ?_
   refine avb ?_
   refine loop_lp (fun (p1 : Int) => ⟨[(0, .d (D.sl 4 (List.map Gx.Step.enc v0))), (1, .d (D.sl 4 (List.map Gx.Step.enc v1))), (12, .d (D.i (v0.length : Int))), (13, .d (D.i p1))], [], 1000⟩) h ?_ ?_
   ·exact weak_by
   intro np1 p1 yp1 h hfp1
   unfold g_slices_Equal_Simpl_Step_impl_Step_L1 at h
   refine avb ?_
   refine brb h ?_ ?_<;>intro _ h
   ·refine idx_sel h (fun x1 hx1 h => ?_)
    refine avb ?_
    refine idx_sel h (fun x2 hx2 h => ?_)
    refine avb ?_
    refine brb h ?_ ?_<;>intro _ h
    ·have h := finr hfp1 h
     have h := cutr gt3 h
     cases h;exact eq_by
    ·exact lbk hfp1 h
   ·have h := finr hfp1 h
    refine cut_at (()) (some_in h) ?_
    exact weak_by
  rintro t3 rfl
  have h : _ = some _ := gt3
  refine avb ?_
  cases h;exact eq_by

theorem i_sameClue_ok (N : Nat) (v0 : Gx.Clue) (v1 : Gx.Clue) {r : Bool} (h : i_sameClue N v0 v1 = some r) : Pure Tryz.prog 149 [DV.agg (Gx.Clue.enc v0), DV.agg (Gx.Clue.enc v1)] (DV.one (D.b r)) := by
 refine pure_of_walk Tryz.tok Tryz.mixed Tryz.func149 (by kernel_rfl) fun W => ?_
 unfold i_sameClue at h
 refine avb ?_
 refine brb h ?_ ?_<;>intro _ h
 ·refine plb ?_;refine call_sel (E := fun (x : Bool) => DV.one (D.b x)) h (fun x1 h1 => (g_slices_Equal_Simpl_Step_impl_Step_ok N v0.mPlay v1.mPlay h1)) (fun x1 hx1 h => ?_)
  refine avb ?_
  cases h;exact eq_by
 ·cases h;exact eq_by

theorem i_IsDraft_1_ok (N : Nat) (v0 : Gx.Clue) {r : Bool} (h : i_IsDraft_1 N v0 = some r) : Pure Tryz.prog 147 [DV.agg (Gx.Clue.enc v0)] (DV.one (D.b r)) := by
 refine pure_of_walk Tryz.tok Tryz.mixed Tryz.func147 (by kernel_rfl) fun W => ?_
 unfold i_IsDraft_1 at h
 refine avb ?_
 refine plb ?_;refine call_sel (E := fun (x : Bool) => DV.one (D.b x)) h (fun x1 h1 => (i_IsClue_ok N v0 h1)) (fun x1 hx1 h => ?_)
 refine avb ?_
 refine brb h ?_ ?_<;>intro _ h
 ·refine plb ?_;refine call_sel (E := fun (x : Bool) => DV.one (D.b x)) h (fun x2 h1 => (i_sameClue_ok N v0 (⟨0, []⟩ : Gx.Clue) h1)) (fun x2 hx2 h => ?_)
  refine avb ?_
  cases h;exact eq_by
 ·cases h;exact eq_by

theorem g_slices_IndexFunc_Simpl_Clue_impl_Clue_ok0 (N : Nat) (v0 : List (Gx.Clue)) (v1 : (Gx.Clue) → Option Bool) (fv1 : FuncId) (hv1 : ∀ a0 r, v1 a0 = some r → Pure Tryz.prog fv1 [DV.agg (Gx.Clue.enc a0)] (DV.one (D.b r))) {r : Int} (h : g_slices_IndexFunc_Simpl_Clue_impl_Clue N v0 v1 = some r) : Pure Tryz.prog 183 [DV.one (D.sl 2 (List.map Gx.Clue.enc v0)), DV.fn fv1 []] (DV.one (D.i r)) := by
 refine pure_of_walk Tryz.tok Tryz.mixed Tryz.func183 (by kernel_rfl) fun W => ?_
 unfold g_slices_IndexFunc_Simpl_Clue_impl_Clue at h
 refine ab0 ?_
 refine W.r_seq ?_
 refine ab0 ?_
 obtain ⟨zt3, h, gt3⟩ := cutb_some h
 refine W.r_cut (fun (t3 : Unit) => ⟨[], [], 1000⟩) (fun t => .nx t = zt3) ?_ ?_
 ·refine avb ?_
  refine lns (v0.length : Int) ?_
  refine avb ?_
  refine loop_lp (fun (p1 : Int) => ⟨[(0, .d (D.sl 2 (List.map Gx.Clue.enc v0))), (1, .fn fv1 []), (7, .d (D.i (v0.length : Int))), (8, .d (D.i p1))], [], 1000⟩) h ?_ ?_
  ·exact weak_by
  intro np1 p1 yp1 h hfp1
  unfold g_slices_IndexFunc_Simpl_Clue_impl_Clue_L1 at h
  refine avb ?_
  refine brb h ?_ ?_<;>intro _ h
  ·refine idx_sel h (fun x1 hx1 h => ?_)
   refine avb ?_
   refine plb ?_;refine call_sel (E := fun (x : Bool) => DV.one (D.b x)) h (fun x2 h1 => (hv1 _ _ h1)) (fun x2 hx2 h => ?_)
   refine avb ?_
   refine brb h ?_ ?_<;>intro _ h
   ·have h := finr hfp1 h
    have h := cutr gt3 h
    cases h;exact eq_by
   ·exact lbk hfp1 h
  ·have h := finr hfp1 h
   refine cut_at (()) (some_in h) ?_
   exact weak_by
 rintro t3 rfl
 have h : _ = some _ := gt3
 refine avb ?_
 cases h;exact eq_by

theorem g_slices_ContainsFunc_Simpl_Clue_impl_Clue_ok0 (N : Nat) (v0 : List (Gx.Clue)) (v1 : (Gx.Clue) → Option Bool) (fv1 : FuncId) (hv1 : ∀ a0 r, v1 a0 = some r → Pure Tryz.prog fv1 [DV.agg (Gx.Clue.enc a0)] (DV.one (D.b r))) {r : Bool} (h : g_slices_ContainsFunc_Simpl_Clue_impl_Clue N v0 v1 = some r) : Pure Tryz.prog 146 [DV.one (D.sl 2 (List.map Gx.Clue.enc v0)), DV.fn fv1 []] (DV.one (D.b r)) := by
 refine pure_of_walk Tryz.tok Tryz.mixed Tryz.func146 (by kernel_rfl) fun W => ?_
 unfold g_slices_ContainsFunc_Simpl_Clue_impl_Clue at h
 refine avb ?_
 refine plb ?_;refine call_sel (E := fun (x : Int) => DV.one (D.i x)) h (fun x1 h1 => (g_slices_IndexFunc_Simpl_Clue_impl_Clue_ok0 N v0 v1 fv1 hv1 h1)) (fun x1 hx1 h => ?_)
 refine avb ?_
 cases h;exact eq_by

theorem i_IsDraft_ok (N : Nat) (v0 : Gx.Draft) {r : Bool} (h : i_IsDraft N v0 = some r) : Pure Tryz.prog 106 [DV.agg (Gx.Draft.enc v0)] (DV.one (D.b r)) := by
 refine pure_of_walk Tryz.tok Tryz.mixed Tryz.func106 (by kernel_rfl) fun W => ?_
 unfold i_IsDraft at h
 refine avb ?_
 refine plb ?_;refine call_sel (E := fun (x : Int) => DV.one (D.i x)) h (fun x1 h1 => (i_FormOf_ok N v0.mGrid h1)) (fun x1 hx1 h => ?_)
 refine avb ?_
 refine brb h ?_ ?_<;>intro _ h
 ·refine plb ?_;refine call_sel (E := fun (x : Bool) => DV.one (D.b x)) h (fun x2 h1 => (i_IsFill_ok N v0.mGrid v0.mFill h1)) (fun x2 hx2 h => ?_)
  refine avb ?_
  refine brb h ?_ ?_<;>intro _ h
  ·refine lns (v0.mClues.length : Int) ?_
   refine avb ?_
   refine plb ?_;refine call_sel (E := fun (x : (List (Gx.Slot))) => DV.one (D.sl 4 (List.map Gx.Slot.enc x))) h (fun x3 h1 => (i_SlotsOf_ok N v0.mGrid h1)) (fun x3 hx3 h => ?_)
   refine avb ?_
   refine lns (x3.length : Int) ?_
   refine avb ?_
   refine brb h ?_ ?_<;>intro _ h
   ·refine plb ?_;refine call_sel (E := fun (x : Bool) => DV.one (D.b x)) h (fun x4 h1 => (i_InRange_ok N v0.mVersion 1 9999 h1)) (fun x4 hx4 h => ?_)
    refine avb ?_
    refine brb h ?_ ?_<;>intro _ h
    ·refine plb ?_;refine call_sel (E := fun (x : Bool) => DV.one (D.b x)) h (fun x5 h1 => (g_slices_ContainsFunc_Simpl_Clue_impl_Clue_ok0 N v0.mClues (fun a0 => i_IsDraft_1 N a0) 147 (fun a0 _ hh => i_IsDraft_1_ok N a0 hh) h1)) (fun x5 hx5 h => ?_)
     refine avb ?_
     cases h;exact eq_by
    ·cases h;exact eq_by
   ·cases h;exact eq_by
  ·cases h;exact eq_by
 ·cases h;exact eq_by

theorem i_writeCells_ok (N : Nat) (v0 : List UInt8) (v1 : List (Int)) (v2 : List UInt8) {r : (List UInt8)} (h : i_writeCells N v0 v1 v2 = some r) : Pure Tryz.prog 109 [DV.one (D.s v0), DV.one (D.sl 1 (List.map Gx.encI v1)), DV.one (D.s v2)] (DV.one (D.s r)) := by
 refine pure_of_walk Tryz.tok Tryz.mixed Tryz.func109 (by kernel_rfl) fun W => ?_
 unfold i_writeCells at h
 refine avb ?_
 refine chk_sel h (fun q => Nat.le_trans q (by decide)) (fun h => ?_)
 refine ab0 ?_
 obtain ⟨zt3, h, gt3⟩ := bnd_some h
 refine W.r_cut (fun (t3 : (List (UInt8))) => ⟨[(7, .sl 1)], [(1, some (.arr 1 (List.map encU t3) true))], 1000⟩) (fun t => t = zt3) ?_ ?_
 ·refine avb ?_
  refine lns (v1.length : Int) ?_
  refine avb ?_
  refine loop_lp (fun (p1 : (List (UInt8)) × Int) => ⟨[(2, .d (D.s v2)), (7, .sl 1), (12, .d (D.sl 1 (List.map Gx.encI v1))), (13, .d (D.i (v1.length : Int))), (14, .d (D.i p1.2))], [(1, some (.arr 1 (List.map encU p1.1) true))], 1000⟩) h ?_ ?_
  ·exact weak_by
  intro np1 p1 yp1 h hfp1
  unfold i_writeCells_L1 at h
  refine avb ?_
  refine brb h ?_ ?_<;>intro _ h
  ·refine idx_sel h (fun x1 hx1 h => ?_)
   refine avb ?_
   refine chk_sel h (fun q => q) (fun h => ?_)
   refine avb ?_
   refine idxp_sel h (fun x2 hx2 h => ?_)
   refine avb ?_
   refine ldp_sel hx2 ?_
   refine avb ?_
   exact lbk hfp1 h
  ·have h := finr hfp1 h
   refine cut_at (p1.1) (some_in h) ?_
   exact weak_by
 rintro t3 rfl
 have h : _ = some _ := gt3
 refine avb ?_
 refine ⟨t3, (by (exact eq_by)), ?_⟩
 refine avb ?_
 cases h;exact eq_by

theorem i_SetWord_ok (N : Nat) (v0 : Gx.Draft) (v1 : Int) (v2 : List UInt8) {r : Gx.Draft × Bool} (h : i_SetWord N v0 v1 v2 = some r) : Pure Tryz.prog 56 [DV.agg (Gx.Draft.enc v0), DV.one (D.i v1), DV.one (D.s v2)] (DV.tup [DV.agg (Gx.Draft.enc r.1), DV.one (D.b r.2)]) := by
 refine pure_of_walk Tryz.tok Tryz.mixed Tryz.func56 (by kernel_rfl) fun W => ?_
 unfold i_SetWord at h
 refine avb ?_
 refine plb ?_;refine call_sel (E := fun (x : Gx.Draft) => DV.agg (Gx.Draft.enc x)) h (fun x1 h1 => (i_copyDraft_ok N v0 h1)) (fun x1 hx1 h => ?_)
 refine avb ?_
 refine plb ?_;refine call_sel (E := fun (x : (List (List (Int)))) => DV.one (D.sl 1 (List.map (Gx.encL 1 Gx.encI) x))) h (fun x2 h1 => (i_layout_ok N v0.mGrid h1)) (fun x2 hx2 h => ?_)
 refine ab0 ?_
 refine W.r_seq ?_
 refine ab0 ?_
 obtain ⟨zt7, h, gt7⟩ := bnd_some h
 refine W.r_cut (fun (t7 : Bool) => ⟨[(1, .d (D.i v1)), (2, .d (D.s v2)), (3, .ptr 1 0 0), (6, .ptr 2 0 0), (8, .ptr 3 0 0), (9, .sl 5), (39, .d (D.b t7))], [(1, some (.box [.d (D.i v0.mGrid.mRows), .d (D.i v0.mGrid.mCols), .d (D.s v0.mGrid.mCells), .d (D.s v0.mFill), .d (D.sl 2 (List.map Gx.Clue.enc v0.mClues)), .d (D.i v0.mVersion)])), (2, some (.box [.d (D.i 0), .d (D.i 0), .d (D.s ([] : List UInt8)), .d (D.s ([] : List UInt8)), .d (D.sl 2 (List.map Gx.Clue.enc ([]))), .d (D.i 0)])), (3, some (.box [.d (D.i x1.mGrid.mRows), .d (D.i x1.mGrid.mCols), .d (D.s x1.mGrid.mCells), .d (D.s x1.mFill), .sl 4, .d (D.i x1.mVersion)])), (4, some (.arr 2 (List.map Gx.Clue.enc x1.mClues) true)), (5, some (.arr 1 (List.map (Gx.encL 1 Gx.encI) x2) true))], 1000⟩) (fun t => t = zt7) ?_ ?_
 ·refine avb ?_
  refine plb ?_;refine call_sel (E := fun (x : Bool) => DV.one (D.b x)) h (fun x3 h1 => (i_IsDraft_ok N v0 h1)) (fun x3 hx3 h => ?_)
  refine avb ?_
  refine brb h ?_ ?_<;>intro _ h
  ·refine cut_at (true) (some_in h) ?_
   exact weak_by
  ·refine lns (x2.length : Int) ?_
   refine avb ?_
   refine plb ?_;refine call_sel (E := fun (x : Bool) => DV.one (D.b x)) h (fun x4 h1 => (i_at_ok N v1 (x2.length : Int) h1)) (fun x4 hx4 h => ?_)
   refine avb ?_
   refine brb h ?_ ?_<;>intro _ h
   ·refine cut_at (true) (some_in h) ?_
    exact weak_by
   ·refine plb ?_;refine call_sel (E := fun (x : Bool) => DV.one (D.b x)) h (fun x5 h1 => (i_IsWord_ok N v2 h1)) (fun x5 hx5 h => ?_)
    refine avb ?_
    refine brb h ?_ ?_<;>intro _ h
    ·refine cut_at (true) (some_in h) ?_
     exact weak_by
    ·refine lns (v2.length : Int) ?_
     refine avb ?_
     refine idxp_sel h (fun x6 hx6 h => ?_)
     refine avb ?_
     refine ldp_sel hx6 ?_
     refine avb ?_
     refine lns (x6.length : Int) ?_
     refine avb ?_
     refine cut_at ((v2.length : Int) != (x6.length : Int)) (some_in h) ?_
     exact weak_by
 rintro t7 rfl
 have h : _ = some _ := gt7
 refine avb ?_
 refine brb h ?_ ?_<;>intro _ h
 ·cases h;exact eq_by
 ·refine idxp_sel h (fun x8 hx8 h => ?_)
  refine avb ?_
  refine ldp_sel hx8 ?_
  refine avb ?_
  refine plb ?_;refine call_sel (E := fun (x : (List UInt8)) => DV.one (D.s x)) h (fun x9 h1 => (i_writeCells_ok N v0.mFill x8 v2 h1)) (fun x9 hx9 h => ?_)
  refine avb ?_
  refine plb ?_;refine call_sel (E := fun (x : Bool) => DV.one (D.b x)) h (fun x10 h1 => (i_IsDraft_ok N (⟨(⟨x1.mGrid.mRows, x1.mGrid.mCols, x1.mGrid.mCells⟩ : Gx.Grid), x9, x1.mClues, w64 (x1.mVersion + 1)⟩ : Gx.Draft) h1)) (fun x10 hx10 h => ?_)
  refine avb ?_
  refine brb h ?_ ?_<;>intro _ h
  ·refine plb ?_;refine call_sel (E := fun (x : Gx.Draft) => DV.agg (Gx.Draft.enc x)) h (fun x11 h1 => (i_copyDraft_ok N v0 h1)) (fun x11 hx11 h => ?_)
   refine avb ?_
   cases h;exact eq_by
  ·cases h;exact eq_by

theorem i_StepWrite_ok (N : Nat) (v0 : Gx.House) (v1 : Int) (v2 : List UInt8) {r : Gx.House × Bool} (h : i_StepWrite N v0 v1 v2 = some r) : Pure Tryz.prog 13 [DV.agg (Gx.House.enc v0), DV.one (D.i v1), DV.one (D.s v2)] (DV.tup [DV.agg (Gx.House.enc r.1), DV.one (D.b r.2)]) := by
 refine pure_of_walk Tryz.tok Tryz.mixed Tryz.func13 (by kernel_rfl) fun W => ?_
 unfold i_StepWrite at h
 refine avb ?_
 refine plb ?_;refine call_sel (E := fun (x : Gx.House) => DV.agg (Gx.House.enc x)) h (fun x1 h1 => (i_copyHouse_ok N v0 h1)) (fun x1 hx1 h => ?_)
 refine avb ?_
 refine plb ?_;refine call_sel (E := fun (x : Gx.Draft × Bool) => DV.tup [DV.agg (Gx.Draft.enc x.1), DV.one (D.b x.2)]) h (fun x2 h1 => (i_SetWord_ok N v0.mDesk v1 v2 h1)) (fun x2 hx2 h => ?_)
 refine avb ?_
 cases h;exact eq_by

theorem l_eqListed_ok (N : Nat) (v0 : Gx.Listed) (v1 : Gx.Listed) {r : Bool} (h : l_eqListed N v0 v1 = some r) : Pure Tryz.prog 59 [DV.agg (Gx.Listed.enc v0), DV.agg (Gx.Listed.enc v1)] (DV.one (D.b r)) := by
 refine pure_of_walk Tryz.tok Tryz.mixed Tryz.func59 (by kernel_rfl) fun W => ?_
 unfold l_eqListed at h
 refine avb ?_
 refine brb h ?_ ?_<;>intro _ h
 ·cases h;exact eq_by
 ·refine brb h ?_ ?_<;>intro _ h
  ·cases h;exact eq_by
  ·refine brb h ?_ ?_<;>intro _ h
   ·cases h;exact eq_by
   ·refine brb h ?_ ?_<;>intro _ h
    ·cases h;exact eq_by
    ·cases h;exact eq_by

theorem l_eqListedS_ok (N : Nat) (v0 : List (Gx.Listed)) (v1 : List (Gx.Listed)) {r : Bool} (h : l_eqListedS N v0 v1 = some r) : Pure Tryz.prog 18 [DV.one (D.sl 4 (List.map Gx.Listed.enc v0)), DV.one (D.sl 4 (List.map Gx.Listed.enc v1))] (DV.one (D.b r)) := by
 refine pure_of_walk Tryz.tok Tryz.mixed Tryz.func18 (by kernel_rfl) fun W => ?_
 unfold l_eqListedS at h
 refine avb ?_
 refine lns (v0.length : Int) ?_
 refine avb ?_
 refine lns (v1.length : Int) ?_
 refine avb ?_
 refine br_sel h (fun _ h => ?_) (fun _ h => ?_)
 ·refine avb ?_
  cases h;exact eq_by
 ·refine ab0 ?_
  obtain ⟨zt4, h, gt4⟩ := cutb_some h
  refine W.r_cut (fun (t4 : Unit) => ⟨[], [], 1000⟩) (fun t => .nx t = zt4) ?_ ?_
  ·refine avb ?_
   refine loop_lp (fun (p1 : Int) => ⟨[(0, .d (D.sl 4 (List.map Gx.Listed.enc v0))), (1, .d (D.sl 4 (List.map Gx.Listed.enc v1))), (5, .d (D.i p1))], [], 1000⟩) h ?_ ?_
   ·exact weak_by
   intro np1 p1 yp1 h hfp1
   unfold l_eqListedS_L1 at h
   refine avb ?_
   refine lns (v0.length : Int) ?_
   refine avb ?_
   refine brb h ?_ ?_<;>intro _ h
   ·refine idx_sel h (fun x1 hx1 h => ?_)
    refine avb ?_
    refine idx_sel h (fun x2 hx2 h => ?_)
    refine avb ?_
    refine plb ?_;refine call_sel (E := fun (x : Bool) => DV.one (D.b x)) h (fun x3 h1 => (l_eqListed_ok N x1 x2 h1)) (fun x3 hx3 h => ?_)
    refine avb ?_
    refine brb h ?_ ?_<;>intro _ h
    ·have h := finr hfp1 h
     have h := cutr gt4 h
     cases h;exact eq_by
    ·exact lbk hfp1 h
   ·have h := finr hfp1 h
    refine cut_at (()) (some_in h) ?_
    exact weak_by
  rintro t4 rfl
  have h : _ = some _ := gt4
  refine avb ?_
  cases h;exact eq_by

theorem l_eqMeaning_ok (N : Nat) (v0 : Gx.Meaning) (v1 : Gx.Meaning) {r : Bool} (h : l_eqMeaning N v0 v1 = some r) : Pure Tryz.prog 60 [DV.agg (Gx.Meaning.enc v0), DV.agg (Gx.Meaning.enc v1)] (DV.one (D.b r)) := by
 refine pure_of_walk Tryz.tok Tryz.mixed Tryz.func60 (by kernel_rfl) fun W => ?_
 unfold l_eqMeaning at h
 refine avb ?_
 refine brb h ?_ ?_<;>intro _ h
 ·cases h;exact eq_by
 ·refine brb h ?_ ?_<;>intro _ h
  ·cases h;exact eq_by
  ·cases h;exact eq_by

theorem l_eqMeaningS_ok (N : Nat) (v0 : List (Gx.Meaning)) (v1 : List (Gx.Meaning)) {r : Bool} (h : l_eqMeaningS N v0 v1 = some r) : Pure Tryz.prog 19 [DV.one (D.sl 2 (List.map Gx.Meaning.enc v0)), DV.one (D.sl 2 (List.map Gx.Meaning.enc v1))] (DV.one (D.b r)) := by
 refine pure_of_walk Tryz.tok Tryz.mixed Tryz.func19 (by kernel_rfl) fun W => ?_
 unfold l_eqMeaningS at h
 refine avb ?_
 refine lns (v0.length : Int) ?_
 refine avb ?_
 refine lns (v1.length : Int) ?_
 refine avb ?_
 refine br_sel h (fun _ h => ?_) (fun _ h => ?_)
 ·refine avb ?_
  cases h;exact eq_by
 ·refine ab0 ?_
  obtain ⟨zt4, h, gt4⟩ := cutb_some h
  refine W.r_cut (fun (t4 : Unit) => ⟨[], [], 1000⟩) (fun t => .nx t = zt4) ?_ ?_
  ·refine avb ?_
   refine loop_lp (fun (p1 : Int) => ⟨[(0, .d (D.sl 2 (List.map Gx.Meaning.enc v0))), (1, .d (D.sl 2 (List.map Gx.Meaning.enc v1))), (5, .d (D.i p1))], [], 1000⟩) h ?_ ?_
   ·exact weak_by
   intro np1 p1 yp1 h hfp1
   unfold l_eqMeaningS_L1 at h
   refine avb ?_
   refine lns (v0.length : Int) ?_
   refine avb ?_
   refine brb h ?_ ?_<;>intro _ h
   ·refine idx_sel h (fun x1 hx1 h => ?_)
    refine avb ?_
    refine idx_sel h (fun x2 hx2 h => ?_)
    refine avb ?_
    refine plb ?_;refine call_sel (E := fun (x : Bool) => DV.one (D.b x)) h (fun x3 h1 => (l_eqMeaning_ok N x1 x2 h1)) (fun x3 hx3 h => ?_)
    refine avb ?_
    refine brb h ?_ ?_<;>intro _ h
    ·have h := finr hfp1 h
     have h := cutr gt4 h
     cases h;exact eq_by
    ·exact lbk hfp1 h
   ·have h := finr hfp1 h
    refine cut_at (()) (some_in h) ?_
    exact weak_by
  rintro t4 rfl
  have h : _ = some _ := gt4
  refine avb ?_
  cases h;exact eq_by

theorem l_eqGrid_ok (N : Nat) (v0 : Gx.Grid) (v1 : Gx.Grid) {r : Bool} (h : l_eqGrid N v0 v1 = some r) : Pure Tryz.prog 61 [DV.agg (Gx.Grid.enc v0), DV.agg (Gx.Grid.enc v1)] (DV.one (D.b r)) := by
 refine pure_of_walk Tryz.tok Tryz.mixed Tryz.func61 (by kernel_rfl) fun W => ?_
 unfold l_eqGrid at h
 refine avb ?_
 refine brb h ?_ ?_<;>intro _ h
 ·cases h;exact eq_by
 ·refine brb h ?_ ?_<;>intro _ h
  ·cases h;exact eq_by
  ·refine brb h ?_ ?_<;>intro _ h
   ·cases h;exact eq_by
   ·cases h;exact eq_by

theorem l_eqStep_ok (N : Nat) (v0 : Gx.Step) (v1 : Gx.Step) {r : Bool} (h : l_eqStep N v0 v1 = some r) : Pure Tryz.prog 194 [DV.agg (Gx.Step.enc v0), DV.agg (Gx.Step.enc v1)] (DV.one (D.b r)) := by
 refine pure_of_walk Tryz.tok Tryz.mixed Tryz.func194 (by kernel_rfl) fun W => ?_
 unfold l_eqStep at h
 refine avb ?_
 refine brb h ?_ ?_<;>intro _ h
 ·cases h;exact eq_by
 ·refine brb h ?_ ?_<;>intro _ h
  ·cases h;exact eq_by
  ·refine brb h ?_ ?_<;>intro _ h
   ·cases h;exact eq_by
   ·refine brb h ?_ ?_<;>intro _ h
    ·cases h;exact eq_by
    ·cases h;exact eq_by

theorem l_eqStepS_ok (N : Nat) (v0 : List (Gx.Step)) (v1 : List (Gx.Step)) {r : Bool} (h : l_eqStepS N v0 v1 = some r) : Pure Tryz.prog 164 [DV.one (D.sl 4 (List.map Gx.Step.enc v0)), DV.one (D.sl 4 (List.map Gx.Step.enc v1))] (DV.one (D.b r)) := by
 refine pure_of_walk Tryz.tok Tryz.mixed Tryz.func164 (by kernel_rfl) fun W => ?_
 unfold l_eqStepS at h
 refine avb ?_
 refine lns (v0.length : Int) ?_
 refine avb ?_
 refine lns (v1.length : Int) ?_
 refine avb ?_
 refine br_sel h (fun _ h => ?_) (fun _ h => ?_)
 ·refine avb ?_
  cases h;exact eq_by
 ·refine ab0 ?_
  obtain ⟨zt4, h, gt4⟩ := cutb_some h
  refine W.r_cut (fun (t4 : Unit) => ⟨[], [], 1000⟩) (fun t => .nx t = zt4) ?_ ?_
  ·refine avb ?_
   refine loop_lp (fun (p1 : Int) => ⟨[(0, .d (D.sl 4 (List.map Gx.Step.enc v0))), (1, .d (D.sl 4 (List.map Gx.Step.enc v1))), (5, .d (D.i p1))], [], 1000⟩) h ?_ ?_
   ·exact weak_by
   intro np1 p1 yp1 h hfp1
   unfold l_eqStepS_L1 at h
   refine avb ?_
   refine lns (v0.length : Int) ?_
   refine avb ?_
   refine brb h ?_ ?_<;>intro _ h
   ·refine idx_sel h (fun x1 hx1 h => ?_)
    refine avb ?_
    refine idx_sel h (fun x2 hx2 h => ?_)
    refine avb ?_
    refine plb ?_;refine call_sel (E := fun (x : Bool) => DV.one (D.b x)) h (fun x3 h1 => (l_eqStep_ok N x1 x2 h1)) (fun x3 hx3 h => ?_)
    refine avb ?_
    refine brb h ?_ ?_<;>intro _ h
    ·have h := finr hfp1 h
     have h := cutr gt4 h
     cases h;exact eq_by
    ·exact lbk hfp1 h
   ·have h := finr hfp1 h
    refine cut_at (()) (some_in h) ?_
    exact weak_by
  rintro t4 rfl
  have h : _ = some _ := gt4
  refine avb ?_
  cases h;exact eq_by

theorem l_eqClue_ok (N : Nat) (v0 : Gx.Clue) (v1 : Gx.Clue) {r : Bool} (h : l_eqClue N v0 v1 = some r) : Pure Tryz.prog 124 [DV.agg (Gx.Clue.enc v0), DV.agg (Gx.Clue.enc v1)] (DV.one (D.b r)) := by
 refine pure_of_walk Tryz.tok Tryz.mixed Tryz.func124 (by kernel_rfl) fun W => ?_
 unfold l_eqClue at h
 refine avb ?_
 refine brb h ?_ ?_<;>intro _ h
 ·cases h;exact eq_by
 ·refine plb ?_;refine call_sel (E := fun (x : Bool) => DV.one (D.b x)) h (fun x1 h1 => (l_eqStepS_ok N v0.mPlay v1.mPlay h1)) (fun x1 hx1 h => ?_)
  refine avb ?_
  refine brb h ?_ ?_<;>intro _ h
  ·cases h;exact eq_by
  ·cases h;exact eq_by

theorem l_eqClueS_ok (N : Nat) (v0 : List (Gx.Clue)) (v1 : List (Gx.Clue)) {r : Bool} (h : l_eqClueS N v0 v1 = some r) : Pure Tryz.prog 62 [DV.one (D.sl 2 (List.map Gx.Clue.enc v0)), DV.one (D.sl 2 (List.map Gx.Clue.enc v1))] (DV.one (D.b r)) := by
 refine pure_of_walk Tryz.tok Tryz.mixed Tryz.func62 (by kernel_rfl) fun W => ?_
 unfold l_eqClueS at h
 refine avb ?_
 refine lns (v0.length : Int) ?_
 refine avb ?_
 refine lns (v1.length : Int) ?_
 refine avb ?_
 refine br_sel h (fun _ h => ?_) (fun _ h => ?_)
 ·refine avb ?_
  cases h;exact eq_by
 ·refine ab0 ?_
  obtain ⟨zt4, h, gt4⟩ := cutb_some h
  refine W.r_cut (fun (t4 : Unit) => ⟨[], [], 1000⟩) (fun t => .nx t = zt4) ?_ ?_
  ·refine avb ?_
   refine loop_lp (fun (p1 : Int) => ⟨[(0, .d (D.sl 2 (List.map Gx.Clue.enc v0))), (1, .d (D.sl 2 (List.map Gx.Clue.enc v1))), (5, .d (D.i p1))], [], 1000⟩) h ?_ ?_
   ·exact weak_by
   intro np1 p1 yp1 h hfp1
   unfold l_eqClueS_L1 at h
   refine avb ?_
   refine lns (v0.length : Int) ?_
   refine avb ?_
   refine brb h ?_ ?_<;>intro _ h
   ·refine idx_sel h (fun x1 hx1 h => ?_)
    refine avb ?_
    refine idx_sel h (fun x2 hx2 h => ?_)
    refine avb ?_
    refine plb ?_;refine call_sel (E := fun (x : Bool) => DV.one (D.b x)) h (fun x3 h1 => (l_eqClue_ok N x1 x2 h1)) (fun x3 hx3 h => ?_)
    refine avb ?_
    refine brb h ?_ ?_<;>intro _ h
    ·have h := finr hfp1 h
     have h := cutr gt4 h
     cases h;exact eq_by
    ·exact lbk hfp1 h
   ·have h := finr hfp1 h
    refine cut_at (()) (some_in h) ?_
    exact weak_by
  rintro t4 rfl
  have h : _ = some _ := gt4
  refine avb ?_
  cases h;exact eq_by

theorem l_eqDraft_ok (N : Nat) (v0 : Gx.Draft) (v1 : Gx.Draft) {r : Bool} (h : l_eqDraft N v0 v1 = some r) : Pure Tryz.prog 20 [DV.agg (Gx.Draft.enc v0), DV.agg (Gx.Draft.enc v1)] (DV.one (D.b r)) := by
 refine pure_of_walk Tryz.tok Tryz.mixed Tryz.func20 (by kernel_rfl) fun W => ?_
 unfold l_eqDraft at h
 refine avb ?_
 refine plb ?_;refine call_sel (E := fun (x : Bool) => DV.one (D.b x)) h (fun x1 h1 => (l_eqGrid_ok N v0.mGrid v1.mGrid h1)) (fun x1 hx1 h => ?_)
 refine avb ?_
 refine brb h ?_ ?_<;>intro _ h
 ·cases h;exact eq_by
 ·refine brb h ?_ ?_<;>intro _ h
  ·cases h;exact eq_by
  ·refine plb ?_;refine call_sel (E := fun (x : Bool) => DV.one (D.b x)) h (fun x2 h1 => (l_eqClueS_ok N v0.mClues v1.mClues h1)) (fun x2 hx2 h => ?_)
   refine avb ?_
   refine brb h ?_ ?_<;>intro _ h
   ·cases h;exact eq_by
   ·refine brb h ?_ ?_<;>intro _ h
    ·cases h;exact eq_by
    ·cases h;exact eq_by

theorem l_eqIntS_ok (N : Nat) (v0 : List (Int)) (v1 : List (Int)) {r : Bool} (h : l_eqIntS N v0 v1 = some r) : Pure Tryz.prog 165 [DV.one (D.sl 1 (List.map Gx.encI v0)), DV.one (D.sl 1 (List.map Gx.encI v1))] (DV.one (D.b r)) := by
 refine pure_of_walk Tryz.tok Tryz.mixed Tryz.func165 (by kernel_rfl) fun W => ?_
 unfold l_eqIntS at h
 refine avb ?_
 refine lns (v0.length : Int) ?_
 refine avb ?_
 refine lns (v1.length : Int) ?_
 refine avb ?_
 refine br_sel h (fun _ h => ?_) (fun _ h => ?_)
 ·refine avb ?_
  cases h;exact eq_by
 ·refine ab0 ?_
  obtain ⟨zt3, h, gt3⟩ := cutb_some h
  refine W.r_cut (fun (t3 : Unit) => ⟨[], [], 1000⟩) (fun t => .nx t = zt3) ?_ ?_
  ·refine avb ?_
   refine loop_lp (fun (p1 : Int) => ⟨[(0, .d (D.sl 1 (List.map Gx.encI v0))), (1, .d (D.sl 1 (List.map Gx.encI v1))), (5, .d (D.i p1))], [], 1000⟩) h ?_ ?_
   ·exact weak_by
   intro np1 p1 yp1 h hfp1
   unfold l_eqIntS_L1 at h
   refine avb ?_
   refine lns (v0.length : Int) ?_
   refine avb ?_
   refine brb h ?_ ?_<;>intro _ h
   ·refine idx_sel h (fun x1 hx1 h => ?_)
    refine avb ?_
    refine idx_sel h (fun x2 hx2 h => ?_)
    refine avb ?_
    refine brb h ?_ ?_<;>intro _ h
    ·have h := finr hfp1 h
     have h := cutr gt3 h
     cases h;exact eq_by
    ·exact lbk hfp1 h
   ·have h := finr hfp1 h
    refine cut_at (()) (some_in h) ?_
    exact weak_by
  rintro t3 rfl
  have h : _ = some _ := gt3
  refine avb ?_
  cases h;exact eq_by

theorem l_eqPuzzle_ok (N : Nat) (v0 : Gx.Puzzle) (v1 : Gx.Puzzle) {r : Bool} (h : l_eqPuzzle N v0 v1 = some r) : Pure Tryz.prog 125 [DV.agg (Gx.Puzzle.enc v0), DV.agg (Gx.Puzzle.enc v1)] (DV.one (D.b r)) := by
 refine pure_of_walk Tryz.tok Tryz.mixed Tryz.func125 (by kernel_rfl) fun W => ?_
 unfold l_eqPuzzle at h
 refine avb ?_
 refine plb ?_;refine call_sel (E := fun (x : Bool) => DV.one (D.b x)) h (fun x1 h1 => (l_eqGrid_ok N v0.mGrid v1.mGrid h1)) (fun x1 hx1 h => ?_)
 refine avb ?_
 refine brb h ?_ ?_<;>intro _ h
 ·cases h;exact eq_by
 ·refine plb ?_;refine call_sel (E := fun (x : Bool) => DV.one (D.b x)) h (fun x2 h1 => (l_eqClueS_ok N v0.mClues v1.mClues h1)) (fun x2 hx2 h => ?_)
  refine avb ?_
  refine brb h ?_ ?_<;>intro _ h
  ·cases h;exact eq_by
  ·refine plb ?_;refine call_sel (E := fun (x : Bool) => DV.one (D.b x)) h (fun x3 h1 => (l_eqIntS_ok N v0.mSeals v1.mSeals h1)) (fun x3 hx3 h => ?_)
   refine avb ?_
   refine brb h ?_ ?_<;>intro _ h
   ·cases h;exact eq_by
   ·refine brb h ?_ ?_<;>intro _ h
    ·cases h;exact eq_by
    ·cases h;exact eq_by

theorem l_eqIssue_ok (N : Nat) (v0 : Gx.Issue) (v1 : Gx.Issue) {r : Bool} (h : l_eqIssue N v0 v1 = some r) : Pure Tryz.prog 63 [DV.agg (Gx.Issue.enc v0), DV.agg (Gx.Issue.enc v1)] (DV.one (D.b r)) := by
 refine pure_of_walk Tryz.tok Tryz.mixed Tryz.func63 (by kernel_rfl) fun W => ?_
 unfold l_eqIssue at h
 refine avb ?_
 refine brb h ?_ ?_<;>intro _ h
 ·cases h;exact eq_by
 ·refine plb ?_;refine call_sel (E := fun (x : Bool) => DV.one (D.b x)) h (fun x1 h1 => (l_eqPuzzle_ok N v0.mPuzzle v1.mPuzzle h1)) (fun x1 hx1 h => ?_)
  refine avb ?_
  refine brb h ?_ ?_<;>intro _ h
  ·cases h;exact eq_by
  ·refine brb h ?_ ?_<;>intro _ h
   ·cases h;exact eq_by
   ·refine brb h ?_ ?_<;>intro _ h
    ·cases h;exact eq_by
    ·refine brb h ?_ ?_<;>intro _ h
     ·cases h;exact eq_by
     ·cases h;exact eq_by

theorem l_eqIssueS_ok (N : Nat) (v0 : List (Gx.Issue)) (v1 : List (Gx.Issue)) {r : Bool} (h : l_eqIssueS N v0 v1 = some r) : Pure Tryz.prog 21 [DV.one (D.sl 10 (List.map Gx.Issue.enc v0)), DV.one (D.sl 10 (List.map Gx.Issue.enc v1))] (DV.one (D.b r)) := by
 refine pure_of_walk Tryz.tok Tryz.mixed Tryz.func21 (by kernel_rfl) fun W => ?_
 unfold l_eqIssueS at h
 refine avb ?_
 refine lns (v0.length : Int) ?_
 refine avb ?_
 refine lns (v1.length : Int) ?_
 refine avb ?_
 refine br_sel h (fun _ h => ?_) (fun _ h => ?_)
 ·refine avb ?_
  cases h;exact eq_by
 ·refine ab0 ?_
  obtain ⟨zt4, h, gt4⟩ := cutb_some h
  refine W.r_cut (fun (t4 : Unit) => ⟨[], [], 1000⟩) (fun t => .nx t = zt4) ?_ ?_
  ·refine avb ?_
   refine loop_lp (fun (p1 : Int) => ⟨[(0, .d (D.sl 10 (List.map Gx.Issue.enc v0))), (1, .d (D.sl 10 (List.map Gx.Issue.enc v1))), (5, .d (D.i p1))], [], 1000⟩) h ?_ ?_
   ·exact weak_by
   intro np1 p1 yp1 h hfp1
   unfold l_eqIssueS_L1 at h
   refine avb ?_
   refine lns (v0.length : Int) ?_
   refine avb ?_
   refine brb h ?_ ?_<;>intro _ h
   ·refine idx_sel h (fun x1 hx1 h => ?_)
    refine avb ?_
    refine idx_sel h (fun x2 hx2 h => ?_)
    refine avb ?_
    refine plb ?_;refine call_sel (E := fun (x : Bool) => DV.one (D.b x)) h (fun x3 h1 => (l_eqIssue_ok N x1 x2 h1)) (fun x3 hx3 h => ?_)
    refine avb ?_
    refine brb h ?_ ?_<;>intro _ h
    ·have h := finr hfp1 h
     have h := cutr gt4 h
     cases h;exact eq_by
    ·exact lbk hfp1 h
   ·have h := finr hfp1 h
    refine cut_at (()) (some_in h) ?_
    exact weak_by
  rintro t4 rfl
  have h : _ = some _ := gt4
  refine avb ?_
  cases h;exact eq_by

theorem l_eqUsed_ok (N : Nat) (v0 : Gx.Used) (v1 : Gx.Used) {r : Bool} (h : l_eqUsed N v0 v1 = some r) : Pure Tryz.prog 64 [DV.agg (Gx.Used.enc v0), DV.agg (Gx.Used.enc v1)] (DV.one (D.b r)) := by
 refine pure_of_walk Tryz.tok Tryz.mixed Tryz.func64 (by kernel_rfl) fun W => ?_
 unfold l_eqUsed at h
 refine avb ?_
 refine brb h ?_ ?_<;>intro _ h
 ·cases h;exact eq_by
 ·refine brb h ?_ ?_<;>intro _ h
  ·cases h;exact eq_by
  ·cases h;exact eq_by

theorem l_eqUsedS_ok (N : Nat) (v0 : List (Gx.Used)) (v1 : List (Gx.Used)) {r : Bool} (h : l_eqUsedS N v0 v1 = some r) : Pure Tryz.prog 22 [DV.one (D.sl 2 (List.map Gx.Used.enc v0)), DV.one (D.sl 2 (List.map Gx.Used.enc v1))] (DV.one (D.b r)) := by
 refine pure_of_walk Tryz.tok Tryz.mixed Tryz.func22 (by kernel_rfl) fun W => ?_
 unfold l_eqUsedS at h
 refine avb ?_
 refine lns (v0.length : Int) ?_
 refine avb ?_
 refine lns (v1.length : Int) ?_
 refine avb ?_
 refine br_sel h (fun _ h => ?_) (fun _ h => ?_)
 ·refine avb ?_
  cases h;exact eq_by
 ·refine ab0 ?_
  obtain ⟨zt4, h, gt4⟩ := cutb_some h
  refine W.r_cut (fun (t4 : Unit) => ⟨[], [], 1000⟩) (fun t => .nx t = zt4) ?_ ?_
  ·refine avb ?_
   refine loop_lp (fun (p1 : Int) => ⟨[(0, .d (D.sl 2 (List.map Gx.Used.enc v0))), (1, .d (D.sl 2 (List.map Gx.Used.enc v1))), (5, .d (D.i p1))], [], 1000⟩) h ?_ ?_
   ·exact weak_by
   intro np1 p1 yp1 h hfp1
   unfold l_eqUsedS_L1 at h
   refine avb ?_
   refine lns (v0.length : Int) ?_
   refine avb ?_
   refine brb h ?_ ?_<;>intro _ h
   ·refine idx_sel h (fun x1 hx1 h => ?_)
    refine avb ?_
    refine idx_sel h (fun x2 hx2 h => ?_)
    refine avb ?_
    refine plb ?_;refine call_sel (E := fun (x : Bool) => DV.one (D.b x)) h (fun x3 h1 => (l_eqUsed_ok N x1 x2 h1)) (fun x3 hx3 h => ?_)
    refine avb ?_
    refine brb h ?_ ?_<;>intro _ h
    ·have h := finr hfp1 h
     have h := cutr gt4 h
     cases h;exact eq_by
    ·exact lbk hfp1 h
   ·have h := finr hfp1 h
    refine cut_at (()) (some_in h) ?_
    exact weak_by
  rintro t4 rfl
  have h : _ = some _ := gt4
  refine avb ?_
  cases h;exact eq_by

theorem l_eqCorrection_ok (N : Nat) (v0 : Gx.Correction) (v1 : Gx.Correction) {r : Bool} (h : l_eqCorrection N v0 v1 = some r) : Pure Tryz.prog 65 [DV.agg (Gx.Correction.enc v0), DV.agg (Gx.Correction.enc v1)] (DV.one (D.b r)) := by
 refine pure_of_walk Tryz.tok Tryz.mixed Tryz.func65 (by kernel_rfl) fun W => ?_
 unfold l_eqCorrection at h
 refine avb ?_
 refine brb h ?_ ?_<;>intro _ h
 ·cases h;exact eq_by
 ·refine brb h ?_ ?_<;>intro _ h
  ·cases h;exact eq_by
  ·refine plb ?_;refine call_sel (E := fun (x : Bool) => DV.one (D.b x)) h (fun x1 h1 => (l_eqClue_ok N v0.mClue v1.mClue h1)) (fun x1 hx1 h => ?_)
   refine avb ?_
   refine brb h ?_ ?_<;>intro _ h
   ·cases h;exact eq_by
   ·refine brb h ?_ ?_<;>intro _ h
    ·cases h;exact eq_by
    ·cases h;exact eq_by

theorem l_eqCorrectionS_ok (N : Nat) (v0 : List (Gx.Correction)) (v1 : List (Gx.Correction)) {r : Bool} (h : l_eqCorrectionS N v0 v1 = some r) : Pure Tryz.prog 23 [DV.one (D.sl 5 (List.map Gx.Correction.enc v0)), DV.one (D.sl 5 (List.map Gx.Correction.enc v1))] (DV.one (D.b r)) := by
 refine pure_of_walk Tryz.tok Tryz.mixed Tryz.func23 (by kernel_rfl) fun W => ?_
 unfold l_eqCorrectionS at h
 refine avb ?_
 refine lns (v0.length : Int) ?_
 refine avb ?_
 refine lns (v1.length : Int) ?_
 refine avb ?_
 refine br_sel h (fun _ h => ?_) (fun _ h => ?_)
 ·refine avb ?_
  cases h;exact eq_by
 ·refine ab0 ?_
  obtain ⟨zt4, h, gt4⟩ := cutb_some h
  refine W.r_cut (fun (t4 : Unit) => ⟨[], [], 1000⟩) (fun t => .nx t = zt4) ?_ ?_
  ·refine avb ?_
   refine loop_lp (fun (p1 : Int) => ⟨[(0, .d (D.sl 5 (List.map Gx.Correction.enc v0))), (1, .d (D.sl 5 (List.map Gx.Correction.enc v1))), (5, .d (D.i p1))], [], 1000⟩) h ?_ ?_
   ·exact weak_by
   intro np1 p1 yp1 h hfp1
   unfold l_eqCorrectionS_L1 at h
   refine avb ?_
   refine lns (v0.length : Int) ?_
   refine avb ?_
   refine brb h ?_ ?_<;>intro _ h
   ·refine idx_sel h (fun x1 hx1 h => ?_)
    refine avb ?_
    refine idx_sel h (fun x2 hx2 h => ?_)
    refine avb ?_
    refine plb ?_;refine call_sel (E := fun (x : Bool) => DV.one (D.b x)) h (fun x3 h1 => (l_eqCorrection_ok N x1 x2 h1)) (fun x3 hx3 h => ?_)
    refine avb ?_
    refine brb h ?_ ?_<;>intro _ h
    ·have h := finr hfp1 h
     have h := cutr gt4 h
     cases h;exact eq_by
    ·exact lbk hfp1 h
   ·have h := finr hfp1 h
    refine cut_at (()) (some_in h) ?_
    exact weak_by
  rintro t4 rfl
  have h : _ = some _ := gt4
  refine avb ?_
  cases h;exact eq_by

theorem l_eqEntry_ok (N : Nat) (v0 : Gx.Entry) (v1 : Gx.Entry) {r : Bool} (h : l_eqEntry N v0 v1 = some r) : Pure Tryz.prog 66 [DV.agg (Gx.Entry.enc v0), DV.agg (Gx.Entry.enc v1)] (DV.one (D.b r)) := by
 refine pure_of_walk Tryz.tok Tryz.mixed Tryz.func66 (by kernel_rfl) fun W => ?_
 unfold l_eqEntry at h
 refine avb ?_
 refine brb h ?_ ?_<;>intro _ h
 ·cases h;exact eq_by
 ·refine brb h ?_ ?_<;>intro _ h
  ·cases h;exact eq_by
  ·refine brb h ?_ ?_<;>intro _ h
   ·cases h;exact eq_by
   ·refine brb h ?_ ?_<;>intro _ h
    ·cases h;exact eq_by
    ·cases h;exact eq_by

theorem l_eqEntryS_ok (N : Nat) (v0 : List (Gx.Entry)) (v1 : List (Gx.Entry)) {r : Bool} (h : l_eqEntryS N v0 v1 = some r) : Pure Tryz.prog 24 [DV.one (D.sl 4 (List.map Gx.Entry.enc v0)), DV.one (D.sl 4 (List.map Gx.Entry.enc v1))] (DV.one (D.b r)) := by
 refine pure_of_walk Tryz.tok Tryz.mixed Tryz.func24 (by kernel_rfl) fun W => ?_
 unfold l_eqEntryS at h
 refine avb ?_
 refine lns (v0.length : Int) ?_
 refine avb ?_
 refine lns (v1.length : Int) ?_
 refine avb ?_
 refine br_sel h (fun _ h => ?_) (fun _ h => ?_)
 ·refine avb ?_
  cases h;exact eq_by
 ·refine ab0 ?_
  obtain ⟨zt4, h, gt4⟩ := cutb_some h
  refine W.r_cut (fun (t4 : Unit) => ⟨[], [], 1000⟩) (fun t => .nx t = zt4) ?_ ?_
  ·refine avb ?_
   refine loop_lp (fun (p1 : Int) => ⟨[(0, .d (D.sl 4 (List.map Gx.Entry.enc v0))), (1, .d (D.sl 4 (List.map Gx.Entry.enc v1))), (5, .d (D.i p1))], [], 1000⟩) h ?_ ?_
   ·exact weak_by
   intro np1 p1 yp1 h hfp1
   unfold l_eqEntryS_L1 at h
   refine avb ?_
   refine lns (v0.length : Int) ?_
   refine avb ?_
   refine brb h ?_ ?_<;>intro _ h
   ·refine idx_sel h (fun x1 hx1 h => ?_)
    refine avb ?_
    refine idx_sel h (fun x2 hx2 h => ?_)
    refine avb ?_
    refine plb ?_;refine call_sel (E := fun (x : Bool) => DV.one (D.b x)) h (fun x3 h1 => (l_eqEntry_ok N x1 x2 h1)) (fun x3 hx3 h => ?_)
    refine avb ?_
    refine brb h ?_ ?_<;>intro _ h
    ·have h := finr hfp1 h
     have h := cutr gt4 h
     cases h;exact eq_by
    ·exact lbk hfp1 h
   ·have h := finr hfp1 h
    refine cut_at (()) (some_in h) ?_
    exact weak_by
  rintro t4 rfl
  have h : _ = some _ := gt4
  refine avb ?_
  cases h;exact eq_by

theorem l_eqHouse_ok (N : Nat) (v0 : Gx.House) (v1 : Gx.House) {r : Bool} (h : l_eqHouse N v0 v1 = some r) : Pure Tryz.prog 7 [DV.agg (Gx.House.enc v0), DV.agg (Gx.House.enc v1)] (DV.one (D.b r)) := by
 refine pure_of_walk Tryz.tok Tryz.mixed Tryz.func7 (by kernel_rfl) fun W => ?_
 unfold l_eqHouse at h
 refine avb ?_
 refine plb ?_;refine call_sel (E := fun (x : Bool) => DV.one (D.b x)) h (fun x1 h1 => (l_eqListedS_ok N v0.mList v1.mList h1)) (fun x1 hx1 h => ?_)
 refine avb ?_
 refine brb h ?_ ?_<;>intro _ h
 ·cases h;exact eq_by
 ·refine plb ?_;refine call_sel (E := fun (x : Bool) => DV.one (D.b x)) h (fun x2 h1 => (l_eqMeaningS_ok N v0.mDict v1.mDict h1)) (fun x2 hx2 h => ?_)
  refine avb ?_
  refine brb h ?_ ?_<;>intro _ h
  ·cases h;exact eq_by
  ·refine plb ?_;refine call_sel (E := fun (x : Bool) => DV.one (D.b x)) h (fun x3 h1 => (l_eqDraft_ok N v0.mDesk v1.mDesk h1)) (fun x3 hx3 h => ?_)
   refine avb ?_
   refine brb h ?_ ?_<;>intro _ h
   ·cases h;exact eq_by
   ·refine plb ?_;refine call_sel (E := fun (x : Bool) => DV.one (D.b x)) h (fun x4 h1 => (l_eqIssueS_ok N v0.mIssues v1.mIssues h1)) (fun x4 hx4 h => ?_)
    refine avb ?_
    refine brb h ?_ ?_<;>intro _ h
    ·cases h;exact eq_by
    ·refine plb ?_;refine call_sel (E := fun (x : Bool) => DV.one (D.b x)) h (fun x5 h1 => (l_eqUsedS_ok N v0.mUses v1.mUses h1)) (fun x5 hx5 h => ?_)
     refine avb ?_
     refine brb h ?_ ?_<;>intro _ h
     ·cases h;exact eq_by
     ·refine plb ?_;refine call_sel (E := fun (x : Bool) => DV.one (D.b x)) h (fun x6 h1 => (l_eqCorrectionS_ok N v0.mCorrections v1.mCorrections h1)) (fun x6 hx6 h => ?_)
      refine avb ?_
      refine brb h ?_ ?_<;>intro _ h
      ·cases h;exact eq_by
      ·refine plb ?_;refine call_sel (E := fun (x : Bool) => DV.one (D.b x)) h (fun x7 h1 => (l_eqEntryS_ok N v0.mEntries v1.mEntries h1)) (fun x7 hx7 h => ?_)
       refine avb ?_
       refine brb h ?_ ?_<;>intro _ h
       ·cases h;exact eq_by
       ·refine brb h ?_ ?_<;>intro _ h
        ·cases h;exact eq_by
        ·cases h;exact eq_by

theorem l_markText_ok (N : Nat) (v0 : Int) {r : (List UInt8)} (h : l_markText N v0 = some r) : Pure Tryz.prog 67 [DV.one (D.i v0)] (DV.one (D.s r)) := by
 refine pure_of_walk Tryz.tok Tryz.mixed Tryz.func67 (by kernel_rfl) fun W => ?_
 unfold l_markText at h
 refine avb ?_
 refine br_sel h (fun _ h => ?_) (fun _ h => ?_)
 ·refine avb ?_
  cases h;exact eq_by
 ·refine ab0 ?_
  refine W.r_seq ?_
  refine ab0 ?_
  obtain ⟨zt1, h, gt1⟩ := bnd_some h
  refine W.r_cut (fun (t1 : (List UInt8)) => ⟨[(3, .d (D.s t1))], [], 1000⟩) (fun t => t = zt1) ?_ ?_
  ·refine avb ?_
   refine loop_lp (fun (p1 : Int × (List UInt8)) => ⟨[(0, .d (D.i p1.1)), (3, .d (D.s p1.2))], [], 1000⟩) h ?_ ?_
   ·exact weak_by
   intro np1 p1 yp1 h hfp1
   unfold l_markText_L1 at h
   refine avb ?_
   refine brb h ?_ ?_<;>intro _ h
   ·refine chk_sel h (fun q => q) (fun h => ?_)
    refine avb ?_
    refine ⟨[UInt8.ofInt (IntKind.u8.wrap (w64 (48 + (Int.tmod p1.1 10))))], (by (exact eq_by)), ?_⟩
    refine avb ?_
    refine chk_sel h (fun q => Nat.le_trans q (by decide)) (fun h => ?_)
    refine avb ?_
    refine chk_sel h (fun q => q) (fun h => ?_)
    refine avb ?_
    exact lbk hfp1 h
   ·have h := finr hfp1 h
    refine cut_at (p1.2) (some_in h) ?_
    exact weak_by
  rintro t1 rfl
  have h : _ = some _ := gt1
  refine avb ?_
  refine chk_sel h (fun q => Nat.le_trans q (by decide)) (fun h => ?_)
  refine avb ?_
  cases h;exact eq_by

theorem l_markListedS_ok (N : Nat) (v0 : List (Gx.Listed)) (v1 : Int) {r : (List (Gx.Listed)) × Int} (h : l_markListedS N v0 v1 = some r) : Turn Tryz.prog 25 [.sl 0, .d (D.i v1)] [.deep 4 (List.map Gx.Listed.enc v0)] [some (.deep 4 (List.map Gx.Listed.enc r.1))] (.d (D.i r.2)) := by
 refine turn_of_walk Tryz.tok Tryz.mixed Tryz.func25 (by kernel_rfl) rfl fun W => ?_
 unfold l_markListedS at h
 refine ab0 ?_
 refine W.r_seq ?_
 refine ab0 ?_
 obtain ⟨zt6, h, gt6⟩ := bnd_some h
 refine W.r_cut (fun (t6 : (List (Gx.Listed)) × Int) => ⟨[(1, .d (D.i t6.2))], [(1, some (.deep 4 (List.map Gx.Listed.enc t6.1))), (990, some (.pin [.sl 1]))], 1000⟩) (fun t => t = zt6) ?_ ?_
 ·refine avb ?_
  refine loop_lp (fun (p1 : (List (Gx.Listed)) × Int × Int) => ⟨[(0, .sl 1), (1, .d (D.i p1.2.1)), (5, .d (D.i p1.2.2))], [(1, some (.deep 4 (List.map Gx.Listed.enc p1.1))), (990, some (.pin [.sl 1]))], 1000⟩) h ?_ ?_
  ·exact weak_by
  intro np1 p1 yp1 h hfp1
  unfold l_markListedS_L1 at h
  refine avb ?_
  refine lns (p1.1.length : Int) ?_
  refine avb ?_
  refine brb h ?_ ?_<;>intro _ h
  ·refine plb ?_;refine call_sel (E := fun (x : (List UInt8)) => DV.one (D.s x)) h (fun x1 h1 => (l_markText_ok N p1.2.1 h1)) (fun x1 hx1 h => ?_)
   refine avb ?_
   refine idxp_sel h (fun x2 hx2 h => ?_)
   refine avb ?_
   refine ldp_sel hx2 ?_
   refine avb ?_
   refine idxp_raw (show _ = List.map Gx.Listed.enc (List.set p1.1 (Int.toNat p1.2.2) (⟨x1, x2.mFrom, x2.mUntil, x2.mScore⟩ : Gx.Listed)) by (exact eq_by)) h (fun x3 hx3 h => ?_)
   refine avb ?_
   refine ldp_raw (show _ = List.map Gx.Listed.enc (List.set p1.1 (Int.toNat p1.2.2) (⟨x1, x2.mFrom, x2.mUntil, x2.mScore⟩ : Gx.Listed)) by (exact eq_by)) hx3 ?_
   refine avb ?_
   refine idxp_raw (show _ = List.map Gx.Listed.enc (List.set p1.1 (Int.toNat p1.2.2) (⟨x3.mWord, w64 (p1.2.1 + 1), x3.mUntil, x3.mScore⟩ : Gx.Listed)) by (exact eq_by)) h (fun x4 hx4 h => ?_)
   refine avb ?_
   refine ldp_raw (show _ = List.map Gx.Listed.enc (List.set p1.1 (Int.toNat p1.2.2) (⟨x3.mWord, w64 (p1.2.1 + 1), x3.mUntil, x3.mScore⟩ : Gx.Listed)) by (exact eq_by)) hx4 ?_
   refine avb ?_
   refine idxp_raw (show _ = List.map Gx.Listed.enc (List.set p1.1 (Int.toNat p1.2.2) (⟨x4.mWord, x4.mFrom, w64 ((w64 (p1.2.1 + 1)) + 1), x4.mScore⟩ : Gx.Listed)) by (exact eq_by)) h (fun x5 hx5 h => ?_)
   refine avb ?_
   refine ldp_raw (show _ = List.map Gx.Listed.enc (List.set p1.1 (Int.toNat p1.2.2) (⟨x4.mWord, x4.mFrom, w64 ((w64 (p1.2.1 + 1)) + 1), x4.mScore⟩ : Gx.Listed)) by (exact eq_by)) hx5 ?_
   refine avb ?_
   exact lbk hfp1 h
  ·have h := finr hfp1 h
   refine cut_at ((p1.1, p1.2.1)) (some_in h) ?_
   exact weak_by
 rintro t6 rfl
 have h : _ = some _ := gt6
 refine avb ?_
 obtain rfl := some_in h
 exact ⟨cons_eq (some_deep (by (exact eq_by))) (rfl), by (exact eq_by)⟩

theorem l_markMeaningS_ok (N : Nat) (v0 : List (Gx.Meaning)) (v1 : Int) {r : (List (Gx.Meaning)) × Int} (h : l_markMeaningS N v0 v1 = some r) : Turn Tryz.prog 26 [.sl 0, .d (D.i v1)] [.deep 2 (List.map Gx.Meaning.enc v0)] [some (.deep 2 (List.map Gx.Meaning.enc r.1))] (.d (D.i r.2)) := by
 refine turn_of_walk Tryz.tok Tryz.mixed Tryz.func26 (by kernel_rfl) rfl fun W => ?_
 unfold l_markMeaningS at h
 refine ab0 ?_
 refine W.r_seq ?_
 refine ab0 ?_
 obtain ⟨zt4, h, gt4⟩ := bnd_some h
 refine W.r_cut (fun (t4 : (List (Gx.Meaning)) × Int) => ⟨[(1, .d (D.i t4.2))], [(1, some (.deep 2 (List.map Gx.Meaning.enc t4.1))), (990, some (.pin [.sl 1]))], 1000⟩) (fun t => t = zt4) ?_ ?_
 ·refine avb ?_
  refine loop_lp (fun (p1 : (List (Gx.Meaning)) × Int × Int) => ⟨[(0, .sl 1), (1, .d (D.i p1.2.1)), (5, .d (D.i p1.2.2))], [(1, some (.deep 2 (List.map Gx.Meaning.enc p1.1))), (990, some (.pin [.sl 1]))], 1000⟩) h ?_ ?_
  ·exact weak_by
  intro np1 p1 yp1 h hfp1
  unfold l_markMeaningS_L1 at h
  refine avb ?_
  refine lns (p1.1.length : Int) ?_
  refine avb ?_
  refine brb h ?_ ?_<;>intro _ h
  ·refine plb ?_;refine call_sel (E := fun (x : (List UInt8)) => DV.one (D.s x)) h (fun x1 h1 => (l_markText_ok N p1.2.1 h1)) (fun x1 hx1 h => ?_)
   refine avb ?_
   refine idxp_sel h (fun x2 hx2 h => ?_)
   refine avb ?_
   refine ldp_sel hx2 ?_
   refine avb ?_
   refine idxp_raw (show _ = List.map Gx.Meaning.enc (List.set p1.1 (Int.toNat p1.2.2) (⟨x1, x2.mSense⟩ : Gx.Meaning)) by (exact eq_by)) h (fun x3 hx3 h => ?_)
   refine avb ?_
   refine ldp_raw (show _ = List.map Gx.Meaning.enc (List.set p1.1 (Int.toNat p1.2.2) (⟨x1, x2.mSense⟩ : Gx.Meaning)) by (exact eq_by)) hx3 ?_
   refine avb ?_
   exact lbk hfp1 h
  ·have h := finr hfp1 h
   refine cut_at ((p1.1, p1.2.1)) (some_in h) ?_
   exact weak_by
 rintro t4 rfl
 have h : _ = some _ := gt4
 refine avb ?_
 obtain rfl := some_in h
 exact ⟨cons_eq (some_deep (by (exact eq_by))) (rfl), by (exact eq_by)⟩

theorem l_markStepS_ok (N : Nat) (v0 : List (Gx.Step)) (v1 : Int) {r : (List (Gx.Step)) × Int} (h : l_markStepS N v0 v1 = some r) : Turn Tryz.prog 70 [.sl 0, .d (D.i v1)] [.deep 4 (List.map Gx.Step.enc v0)] [some (.deep 4 (List.map Gx.Step.enc r.1))] (.d (D.i r.2)) := by
 refine turn_of_walk Tryz.tok Tryz.mixed Tryz.func70 (by kernel_rfl) rfl fun W => ?_
 unfold l_markStepS at h
 refine ab0 ?_
 refine W.r_seq ?_
 refine ab0 ?_
 obtain ⟨zt6, h, gt6⟩ := bnd_some h
 refine W.r_cut (fun (t6 : (List (Gx.Step)) × Int) => ⟨[(1, .d (D.i t6.2))], [(1, some (.deep 4 (List.map Gx.Step.enc t6.1))), (990, some (.pin [.sl 1]))], 1000⟩) (fun t => t = zt6) ?_ ?_
 ·refine avb ?_
  refine loop_lp (fun (p1 : (List (Gx.Step)) × Int × Int) => ⟨[(0, .sl 1), (1, .d (D.i p1.2.1)), (5, .d (D.i p1.2.2))], [(1, some (.deep 4 (List.map Gx.Step.enc p1.1))), (990, some (.pin [.sl 1]))], 1000⟩) h ?_ ?_
  ·exact weak_by
  intro np1 p1 yp1 h hfp1
  unfold l_markStepS_L1 at h
  refine avb ?_
  refine lns (p1.1.length : Int) ?_
  refine avb ?_
  refine brb h ?_ ?_<;>intro _ h
  ·refine idxp_sel h (fun x1 hx1 h => ?_)
   refine avb ?_
   refine ldp_sel hx1 ?_
   refine avb ?_
   refine plb ?_;refine call_sel (E := fun (x : (List UInt8)) => DV.one (D.s x)) h (fun x2 h1 => (l_markText_ok N (w64 (p1.2.1 + 1)) h1)) (fun x2 hx2 h => ?_)
   refine avb ?_
   refine idxp_raw (show _ = List.map Gx.Step.enc (List.set p1.1 (Int.toNat p1.2.2) (⟨p1.2.1, x1.mWord, x1.mA, x1.mB⟩ : Gx.Step)) by (exact eq_by)) h (fun x3 hx3 h => ?_)
   refine avb ?_
   refine ldp_raw (show _ = List.map Gx.Step.enc (List.set p1.1 (Int.toNat p1.2.2) (⟨p1.2.1, x1.mWord, x1.mA, x1.mB⟩ : Gx.Step)) by (exact eq_by)) hx3 ?_
   refine avb ?_
   refine idxp_raw (show _ = List.map Gx.Step.enc (List.set p1.1 (Int.toNat p1.2.2) (⟨x3.mKind, x2, x3.mA, x3.mB⟩ : Gx.Step)) by (exact eq_by)) h (fun x4 hx4 h => ?_)
   refine avb ?_
   refine ldp_raw (show _ = List.map Gx.Step.enc (List.set p1.1 (Int.toNat p1.2.2) (⟨x3.mKind, x2, x3.mA, x3.mB⟩ : Gx.Step)) by (exact eq_by)) hx4 ?_
   refine avb ?_
   refine idxp_raw (show _ = List.map Gx.Step.enc (List.set p1.1 (Int.toNat p1.2.2) (⟨x4.mKind, x4.mWord, w64 ((w64 (p1.2.1 + 1)) + 1), x4.mB⟩ : Gx.Step)) by (exact eq_by)) h (fun x5 hx5 h => ?_)
   refine avb ?_
   refine ldp_raw (show _ = List.map Gx.Step.enc (List.set p1.1 (Int.toNat p1.2.2) (⟨x4.mKind, x4.mWord, w64 ((w64 (p1.2.1 + 1)) + 1), x4.mB⟩ : Gx.Step)) by (exact eq_by)) hx5 ?_
   refine avb ?_
   exact lbk hfp1 h
  ·have h := finr hfp1 h
   refine cut_at ((p1.1, p1.2.1)) (some_in h) ?_
   exact weak_by
 rintro t6 rfl
 have h : _ = some _ := gt6
 refine avb ?_
 obtain rfl := some_in h
 exact ⟨cons_eq (some_deep (by (exact eq_by))) (rfl), by (exact eq_by)⟩

theorem l_markClueS_ok (N : Nat) (v0 : List (Gx.Clue)) (v1 : Int) {r : (List (Gx.Clue)) × Int} (h : l_markClueS N v0 v1 = some r) : Turn Tryz.prog 68 [.sl 0, .d (D.i v1)] [.deep 2 (List.map Gx.Clue.enc v0)] [some (.deep 2 (List.map Gx.Clue.enc r.1))] (.d (D.i r.2)) := by
 refine turn_of_walk Tryz.tok Tryz.mixed Tryz.func68 (by kernel_rfl) rfl fun W => ?_
 unfold l_markClueS at h
 refine ab0 ?_
 refine W.r_seq ?_
 refine ab0 ?_
 obtain ⟨zt4, h, gt4⟩ := bnd_some h
 refine W.r_cut (fun (t4 : (List (Gx.Clue)) × Int) => ⟨[(1, .d (D.i t4.2))], [(1, some (.deep 2 (List.map Gx.Clue.enc t4.1))), (990, some (.pin [.sl 1]))], 1000⟩) (fun t => t = zt4) ?_ ?_
 ·refine avb ?_
  refine loop_lp (fun (p1 : (List (Gx.Clue)) × Int × Int) => ⟨[(0, .sl 1), (1, .d (D.i p1.2.1)), (5, .d (D.i p1.2.2))], [(1, some (.deep 2 (List.map Gx.Clue.enc p1.1))), (990, some (.pin [.sl 1]))], 1000⟩) h ?_ ?_
  ·exact weak_by
  intro np1 p1 yp1 h hfp1
  unfold l_markClueS_L1 at h
  refine avb ?_
  refine lns (p1.1.length : Int) ?_
  refine avb ?_
  refine brb h ?_ ?_<;>intro _ h
  ·refine idxp_sel h (fun x1 hx1 h => ?_)
   refine avb ?_
   refine ldp_sel hx1 ?_
   refine avb ?_
   refine idxp_raw (show _ = List.map Gx.Clue.enc (List.set p1.1 (Int.toNat p1.2.2) (⟨p1.2.1, x1.mPlay⟩ : Gx.Clue)) by (exact eq_by)) h (fun x2 hx2 h => ?_)
   refine avb ?_
   refine ldp_raw (show _ = List.map Gx.Clue.enc (List.set p1.1 (Int.toNat p1.2.2) (⟨p1.2.1, x1.mPlay⟩ : Gx.Clue)) by (exact eq_by)) hx2 ?_
   refine avb ?_
   refine clb ?_;refine ldp_raw (show _ = List.map Gx.Clue.enc (List.set p1.1 (Int.toNat p1.2.2) (⟨p1.2.1, x1.mPlay⟩ : Gx.Clue)) by (exact eq_by)) hx2 ?_;refine whb ?_;refine cturn_sel (R := fun (x3 : (List (Gx.Step)) × Int) => List.map Gx.Step.enc x3.1) (X := fun (x3 : (List (Gx.Step)) × Int) => Value.int .i64 x3.2) h (fun x3 h1 => (l_markStepS_ok N x2.mPlay (w64 (p1.2.1 + 1)) h1)) (fun x3 hx3 h => ?_)
   refine avb ?_
   exact lbk hfp1 h
  ·have h := finr hfp1 h
   refine cut_at ((p1.1, p1.2.1)) (some_in h) ?_
   exact weak_by
 rintro t4 rfl
 have h : _ = some _ := gt4
 refine avb ?_
 obtain rfl := some_in h
 exact ⟨cons_eq (some_deep (by (exact eq_by))) (rfl), by (exact eq_by)⟩

theorem l_markDraft_ok (N : Nat) (v0 : Gx.Draft) (v1 : Int) {r : (List (Gx.Clue)) × Int} (h : l_markDraft N v0 v1 = some r) : Turn Tryz.prog 27 [.agg [.d (D.i v0.mGrid.mRows), .d (D.i v0.mGrid.mCols), .d (D.s v0.mGrid.mCells), .d (D.s v0.mFill), .sl 0, .d (D.i v0.mVersion)], .d (D.i v1)] [.deep 2 (List.map Gx.Clue.enc v0.mClues)] [some (.deep 2 (List.map Gx.Clue.enc r.1))] (.d (D.i r.2)) := by
 refine turn_of_walk Tryz.tok Tryz.mixed Tryz.func27 (by kernel_rfl) rfl fun W => ?_
 unfold l_markDraft at h
 refine avb ?_
 refine qtb ?_;refine turn_sel (O := fun (x1 : (List (Gx.Clue)) × Int) => [some (.deep 2 (List.map Gx.Clue.enc x1.1))]) (V := fun (x1 : (List (Gx.Clue)) × Int) => .d (D.i x1.2)) h trivial (fun x1 h1 => (l_markClueS_ok N v0.mClues v1 h1)) (fun x1 hx1 h => ?_)
 refine avb ?_
 obtain rfl := some_in h
 exact ⟨cons_eq (some_deep (by (exact eq_by))) (rfl), by (exact eq_by)⟩

theorem l_markIntS_ok (N : Nat) (v0 : List (Int)) (v1 : Int) {r : (List (Int)) × Int} (h : l_markIntS N v0 v1 = some r) : Turn Tryz.prog 69 [.sl 0, .d (D.i v1)] [.deep 1 (List.map Gx.encI v0)] [some (.deep 1 (List.map Gx.encI r.1))] (.d (D.i r.2)) := by
 refine turn_of_walk Tryz.tok Tryz.mixed Tryz.func69 (by kernel_rfl) rfl fun W => ?_
 unfold l_markIntS at h
 refine ab0 ?_
 refine W.r_seq ?_
 refine ab0 ?_
 obtain ⟨zt2, h, gt2⟩ := bnd_some h
 refine W.r_cut (fun (t2 : (List (Int)) × Int) => ⟨[(1, .d (D.i t2.2))], [(1, some (.deep 1 (List.map Gx.encI t2.1))), (990, some (.pin [.sl 1]))], 1000⟩) (fun t => t = zt2) ?_ ?_
 ·refine avb ?_
  refine loop_lp (fun (p1 : (List (Int)) × Int × Int) => ⟨[(0, .sl 1), (1, .d (D.i p1.2.1)), (5, .d (D.i p1.2.2))], [(1, some (.deep 1 (List.map Gx.encI p1.1))), (990, some (.pin [.sl 1]))], 1000⟩) h ?_ ?_
  ·exact weak_by
  intro np1 p1 yp1 h hfp1
  unfold l_markIntS_L1 at h
  refine avb ?_
  refine lns (p1.1.length : Int) ?_
  refine avb ?_
  refine brb h ?_ ?_<;>intro _ h
  ·refine idxp_sel h (fun x1 hx1 h => ?_)
   refine avb ?_
   refine ldp_sel hx1 ?_
   refine avb ?_
   exact lbk hfp1 h
  ·have h := finr hfp1 h
   refine cut_at ((p1.1, p1.2.1)) (some_in h) ?_
   exact weak_by
 rintro t2 rfl
 have h : _ = some _ := gt2
 refine avb ?_
 obtain rfl := some_in h
 exact ⟨cons_eq (some_deep (by (exact eq_by))) (rfl), by (exact eq_by)⟩

end Lw
end Go.Proofs
