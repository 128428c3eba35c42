/- PRINTED BY gen.py (mine): their contracts. -/
import Derived.Test.YtgmppfmemimkkaaDoorAvHpFormatNumbers
namespace Go.Proofs
open Go Go.Av
set_option maxRecDepth 100000
set_option maxHeartbeats 40000000
set_option linter.unusedVariables false
set_option linter.unusedSimpArgs false
namespace Lw
theorem l_toIntS_ok (N : Nat) (v0 : List (Int)) {r : (List (Int))} (h : l_toIntS N v0 = some r) : Pure Tryd.prog 7 [DV.one (D.sl 1 (List.map Gx.encI v0))] (DV.one (D.sl 1 (List.map Gx.encI r))) := by
 refine pure_of_walk Tryd.tok Tryd.mixed Tryd.func7 (by kernel_rfl) fun W => ?_
 unfold l_toIntS at h
 refine avb ?_
 refine lns (v0.length : Int) ?_
 refine avb ?_
 refine chk_sel h (fun q => mks_ok q (by decide)) (fun h => ?_)
 refine ab0 ?_
 obtain ⟨zt3, h, gt3⟩ := bnd_some h
 refine W.r_cut (fun (t3 : (List (Int))) => ⟨[(3, .sl 1)], [(1, some (.arr 1 (List.map Gx.encI t3) true))], 1000⟩) (fun t => t = zt3) ?_ ?_
 ·refine avb ?_
  refine loop_lp (fun (p1 : (List (Int)) × Int) => ⟨[(0, .d (D.sl 1 (List.map Gx.encI v0))), (3, .sl 1), (4, .d (D.i p1.2))], [(1, some (.arr 1 (List.map Gx.encI p1.1) true))], 1000⟩) h ?_ ?_
  ·exact weak_by
  intro np1 p1 yp1 h hfp1
  unfold l_toIntS_L1 at h
  refine avb ?_
  refine lns (v0.length : Int) ?_
  refine avb ?_
  refine brb h ?_ ?_<;>intro _ h
  ·refine idx_sel h (fun x1 hx1 h => ?_)
   refine avb ?_
   refine idxp_sel h (fun x2 hx2 h => ?_)
   refine avb ?_
   refine ldp_sel hx2 ?_
   refine avb ?_
   exact lbk hfp1 h
  ·have h := finr hfp1 h
   refine cut_at (p1.1) (some_in h) ?_
   exact weak_by
 rintro t3 rfl
 have h : _ = some _ := gt3
 refine avb ?_
 cases h;exact eq_by

theorem s_FormatInt_ok (N : Nat) (v0 : Int) {r : (List UInt8)} (h : s_FormatInt N v0 = some r) : Pure Tryd.prog 19 [DV.one (D.i v0)] (DV.one (D.s r)) := by
 refine pure_of_walk Tryd.tok Tryd.mixed Tryd.func19 (by kernel_rfl) fun W => ?_
 unfold s_FormatInt at h
 refine avb ?_
 refine br_sel h (fun _ h => ?_) (fun _ h => ?_)
 ·refine avb ?_
  cases h;exact eq_by
 ·refine ab0 ?_
  refine W.r_seq ?_
  refine ab0 ?_
  obtain ⟨zt2, h, gt2⟩ := bnd_some h
  refine W.r_cut (fun (t2 : (List UInt8)) => ⟨[(0, .d (D.i v0)), (3, .d (D.s t2))], [], 1000⟩) (fun t => t = zt2) ?_ ?_
  ·refine avb ?_
   refine loop_lp (fun (p1 : (List UInt8) × Int) => ⟨[(0, .d (D.i v0)), (3, .d (D.s p1.1)), (4, .d (D.i p1.2))], [], 1000⟩) h ?_ ?_
   ·exact weak_by
   intro np1 p1 yp1 h hfp1
   unfold s_FormatInt_L1 at h
   refine avb ?_
   refine brb h ?_ ?_<;>intro _ h
   ·refine chk_sel h (fun q => q) (fun h => ?_)
    refine ab0 ?_
    obtain ⟨zt1, h, gt1⟩ := bnd_some h
    refine W.r_cut (fun (t1 : Int) => ⟨[(0, .d (D.i v0)), (3, .d (D.s p1.1)), (4, .d (D.i p1.2)), (5, .d (D.i t1))], [], 1000⟩) (fun t => t = zt1) ?_ ?_
    ·refine avb ?_
     refine brb h ?_ ?_<;>intro _ h
     ·refine cut_at (w64 (0 - (Int.tmod p1.2 10))) (some_in h) ?_
      exact weak_by
     ·refine cut_at (Int.tmod p1.2 10) (some_in h) ?_
      exact weak_by
    rintro t1 rfl
    have h : _ = some _ := gt1
    refine avb ?_
    refine ⟨[UInt8.ofInt (IntKind.u8.wrap (w64 (48 + t1)))], (by (exact eq_by)), ?_⟩
    refine avb ?_
    refine chk_sel h (fun q => Nat.le_trans q (by decide)) (fun h => ?_)
    refine avb ?_
    refine chk_sel h (fun q => q) (fun h => ?_)
    refine avb ?_
    exact lbk hfp1 h
   ·have h := finr hfp1 h
    refine cut_at (p1.1) (some_in h) ?_
    exact weak_by
  rintro t2 rfl
  have h : _ = some _ := gt2
  refine avb ?_
  refine brb h ?_ ?_<;>intro _ h
  ·refine chk_sel h (fun q => Nat.le_trans q (by decide)) (fun h => ?_)
   refine avb ?_
   cases h;exact eq_by
  ·cases h;exact eq_by

theorem s_l39Join_ok (N : Nat) (v0 : List (List UInt8)) (v1 : List UInt8) {r : (List UInt8)} (h : s_l39Join N v0 v1 = some r) : Pure Tryd.prog 20 [DV.one (D.sl 1 (List.map Gx.encS v0)), DV.one (D.s v1)] (DV.one (D.s r)) := by
 refine pure_of_walk Tryd.tok Tryd.mixed Tryd.func20 (by kernel_rfl) fun W => ?_
 unfold s_l39Join at h
 refine ab0 ?_
 refine W.r_seq ?_
 refine ab0 ?_
 refine W.r_seq ?_
 refine ab0 ?_
 obtain ⟨zt3, h, gt3⟩ := bnd_some h
 refine W.r_cut (fun (t3 : (List UInt8)) => ⟨[(0, .d (D.sl 1 (List.map Gx.encS v0))), (5, .d (D.s t3))], [], 1000⟩) (fun t => t = zt3) ?_ ?_
 ·refine avb ?_
  refine loop_lp (fun (p1 : (List UInt8) × Int) => ⟨[(0, .d (D.sl 1 (List.map Gx.encS v0))), (1, .d (D.s v1)), (5, .d (D.s p1.1)), (6, .d (D.i p1.2))], [], 1000⟩) h ?_ ?_
  ·exact weak_by
  intro np1 p1 yp1 h hfp1
  unfold s_l39Join_L1 at h
  refine avb ?_
  refine lns (v0.length : Int) ?_
  refine avb ?_
  refine br_sel h (fun _ h => ?_) (fun _ h => ?_)
  ·refine ab0 ?_
   refine W.r_seq ?_
   refine ab0 ?_
   obtain ⟨zt1, h, gt1⟩ := bnd_some h
   refine W.r_cut (fun (t1 : (List UInt8)) => ⟨[(0, .d (D.sl 1 (List.map Gx.encS v0))), (1, .d (D.s v1)), (5, .d (D.s t1)), (6, .d (D.i p1.2))], [], 1000⟩) (fun t => t = zt1) ?_ ?_
   ·refine avb ?_
    refine brb h ?_ ?_<;>intro _ h
    ·refine chk_sel h (fun q => Nat.le_trans q (by decide)) (fun h => ?_)
     refine avb ?_
     refine cut_at (p1.1 ++ v1) (some_in h) ?_
     exact weak_by
    ·refine cut_at (p1.1) (some_in h) ?_
     exact weak_by
   rintro t1 rfl
   have h : _ = some _ := gt1
   refine avb ?_
   refine idx_sel h (fun x2 hx2 h => ?_)
   refine avb ?_
   refine chk_sel h (fun q => Nat.le_trans q (by decide)) (fun h => ?_)
   refine avb ?_
   exact lbk hfp1 h
  ·refine avb ?_
   have h := finr hfp1 h
   refine cut_at (p1.1) (some_in h) ?_
   exact weak_by
 rintro t3 rfl
 have h : _ = some _ := gt3
 refine avb ?_
 refine lns (v0.length : Int) ?_
 refine avb ?_
 refine brb h ?_ ?_<;>intro _ h
 ·cases h;exact eq_by
 ·cases h;exact eq_by

theorem s_FormatNumbers_ok (N : Nat) (v0 : List (Int)) {r : (List UInt8)} (h : s_FormatNumbers N v0 = some r) : Pure Tryd.prog 6 [DV.one (D.sl 1 (List.map Gx.encI v0))] (DV.one (D.s r)) := by
 refine pure_of_walk Tryd.tok Tryd.mixed Tryd.func6 (by kernel_rfl) fun W => ?_
 unfold s_FormatNumbers at h
 refine ab0 ?_
 refine W.r_seq ?_
 refine ab0 ?_
 refine W.r_seq ?_
 refine ab0 ?_
 obtain ⟨zt3, h, gt3⟩ := bnd_some h
 refine W.r_cut (fun (t3 : (List (List UInt8))) => ⟨[(3, .sl 1)], [(1, some (.arr 1 (List.map Gx.encS t3) true))], 1000⟩) (fun t => t = zt3) ?_ ?_
 ·refine avb ?_
  refine loop_lp (fun (p1 : (List (List UInt8)) × Int) => ⟨[(0, .d (D.sl 1 (List.map Gx.encI v0))), (3, .sl 1), (4, .d (D.i p1.2))], [(1, some (.arr 1 (List.map Gx.encS p1.1) true))], 1000⟩) h ?_ ?_
  ·exact weak_by
  intro np1 p1 yp1 h hfp1
  unfold s_FormatNumbers_L1 at h
  refine avb ?_
  refine lns (v0.length : Int) ?_
  refine avb ?_
  refine brb h ?_ ?_<;>intro _ h
  ·refine idx_sel h (fun x1 hx1 h => ?_)
   refine avb ?_
   refine plb ?_;refine call_sel (E := fun (x : (List UInt8)) => DV.one (D.s x)) h (fun x2 h1 => (s_FormatInt_ok N x1 h1)) (fun x2 hx2 h => ?_)
   refine avb ?_
   refine app_sel h (app_ok (by (first|rfl|simp [sub])) (by (first|rfl|simp [sub])) (by decide)) (by (intro h; cases h)) (fun h => ?_)
   refine avb ?_
   exact lbk hfp1 h
  ·have h := finr hfp1 h
   refine cut_at (p1.1) (some_in h) ?_
   exact weak_by
 rintro t3 rfl
 have h : _ = some _ := gt3
 refine avb ?_
 refine plb ?_;refine call_sel (E := fun (x : (List UInt8)) => DV.one (D.s x)) h (fun x4 h1 => (s_l39Join_ok N t3 ([32] : List UInt8) h1)) (fun x4 hx4 h => ?_)
 refine avb ?_
 cases h;exact eq_by

theorem i_FormatInt_ok (N : Nat) (v0 : Int) {r : (List UInt8)} (h : i_FormatInt N v0 = some r) : Pure Tryd.prog 21 [DV.one (D.i v0)] (DV.one (D.s r)) := by
 refine pure_of_walk Tryd.tok Tryd.mixed Tryd.func21 (by kernel_rfl) fun W => ?_
 unfold i_FormatInt at h
 refine avb ?_
 refine plb ?_;refine call_sel (E := fun (x : (List UInt8)) => DV.one (D.s x)) h (fun x1 h1 => (g_strconv_Itoa_ok N v0 h1)) (fun x1 hx1 h => ?_)
 refine avb ?_
 cases h;exact eq_by

theorem i_orDash_ok (N : Nat) (v0 : List (List UInt8)) (v1 : List UInt8) {r : (List UInt8)} (h : i_orDash N v0 v1 = some r) : Pure Tryd.prog 22 [DV.one (D.sl 1 (List.map Gx.encS v0)), DV.one (D.s v1)] (DV.one (D.s r)) := by
 refine pure_of_walk Tryd.tok Tryd.mixed Tryd.func22 (by kernel_rfl) fun W => ?_
 unfold i_orDash at h
 refine avb ?_
 refine lns (v0.length : Int) ?_
 refine avb ?_
 refine brb h ?_ ?_<;>intro _ h
 ·cases h;exact eq_by
 ·refine plb ?_;refine call_sel (E := fun (x : (List UInt8)) => DV.one (D.s x)) h (fun x1 h1 => (g_strings_Join_ok N v0 v1 h1)) (fun x1 hx1 h => ?_)
  refine avb ?_
  cases h;exact eq_by

theorem i_FormatNumbers_ok (N : Nat) (v0 : List (Int)) {r : (List UInt8)} (h : i_FormatNumbers N v0 = some r) : Pure Tryd.prog 8 [DV.one (D.sl 1 (List.map Gx.encI v0))] (DV.one (D.s r)) := by
 refine pure_of_walk Tryd.tok Tryd.mixed Tryd.func8 (by kernel_rfl) fun W => ?_
 unfold i_FormatNumbers at h
 refine ab0 ?_
 refine W.r_seq ?_
 refine ab0 ?_
 refine W.r_seq ?_
 refine ab0 ?_
 obtain ⟨zt3, h, gt3⟩ := bnd_some h
 refine W.r_cut (fun (t3 : (List (List UInt8))) => ⟨[(3, .sl 1)], [(1, some (.arr 1 (List.map Gx.encS t3) true))], 1000⟩) (fun t => t = zt3) ?_ ?_
 ·refine avb ?_
  refine lns (v0.length : Int) ?_
  refine avb ?_
  refine loop_lp (fun (p1 : (List (List UInt8)) × Int) => ⟨[(3, .sl 1), (6, .d (D.sl 1 (List.map Gx.encI v0))), (7, .d (D.i (v0.length : Int))), (8, .d (D.i p1.2))], [(1, some (.arr 1 (List.map Gx.encS p1.1) true))], 1000⟩) h ?_ ?_
  ·exact weak_by
  intro np1 p1 yp1 h hfp1
  unfold i_FormatNumbers_L1 at h
  refine avb ?_
  refine brb h ?_ ?_<;>intro _ h
  ·refine idx_sel h (fun x1 hx1 h => ?_)
   refine avb ?_
   refine plb ?_;refine call_sel (E := fun (x : (List UInt8)) => DV.one (D.s x)) h (fun x2 h1 => (i_FormatInt_ok N x1 h1)) (fun x2 hx2 h => ?_)
   refine avb ?_
   refine app_sel h (app_ok (by (first|rfl|simp [sub])) (by (first|rfl|simp [sub])) (by decide)) (by (intro h; cases h)) (fun h => ?_)
   refine avb ?_
   exact lbk hfp1 h
  ·have h := finr hfp1 h
   refine cut_at (p1.1) (some_in h) ?_
   exact weak_by
 rintro t3 rfl
 have h : _ = some _ := gt3
 refine avb ?_
 refine plb ?_;refine call_sel (E := fun (x : (List UInt8)) => DV.one (D.s x)) h (fun x4 h1 => (i_orDash_ok N t3 ([32] : List UInt8) h1)) (fun x4 hx4 h => ?_)
 refine avb ?_
 cases h;exact eq_by

theorem l_eqIntS_ok (N : Nat) (v0 : List (Int)) (v1 : List (Int)) {r : Bool} (h : l_eqIntS N v0 v1 = some r) : Pure Tryd.prog 9 [DV.one (D.sl 1 (List.map Gx.encI v0)), DV.one (D.sl 1 (List.map Gx.encI v1))] (DV.one (D.b r)) := by
 refine pure_of_walk Tryd.tok Tryd.mixed Tryd.func9 (by kernel_rfl) fun W => ?_
 unfold l_eqIntS at h
 refine avb ?_
 refine lns (v0.length : Int) ?_
 refine avb ?_
 refine lns (v1.length : Int) ?_
 refine avb ?_
 refine br_sel h (fun _ h => ?_) (fun _ h => ?_)
 ·refine avb ?_
  cases h;exact eq_by
 ·refine ab0 ?_
  obtain ⟨zt3, h, gt3⟩ := cutb_some h
  refine W.r_cut (fun (t3 : Unit) => ⟨[], [], 1000⟩) (fun t => .nx t = zt3) ?_ ?_
  ·refine avb ?_
   refine loop_lp (fun (p1 : Int) => ⟨[(0, .d (D.sl 1 (List.map Gx.encI v0))), (1, .d (D.sl 1 (List.map Gx.encI v1))), (5, .d (D.i p1))], [], 1000⟩) h ?_ ?_
   ·exact weak_by
   intro np1 p1 yp1 h hfp1
   unfold l_eqIntS_L1 at h
   refine avb ?_
   refine lns (v0.length : Int) ?_
   refine avb ?_
   refine brb h ?_ ?_<;>intro _ h
   ·refine idx_sel h (fun x1 hx1 h => ?_)
    refine avb ?_
    refine idx_sel h (fun x2 hx2 h => ?_)
    refine avb ?_
    refine brb h ?_ ?_<;>intro _ h
    ·have h := finr hfp1 h
     have h := cutr gt3 h
     cases h;exact eq_by
    ·exact lbk hfp1 h
   ·have h := finr hfp1 h
    refine cut_at (()) (some_in h) ?_
    exact weak_by
  rintro t3 rfl
  have h : _ = some _ := gt3
  refine avb ?_
  cases h;exact eq_by

theorem l_FnExactFormatNumbers_ok (N : Nat) (v0 : List (Int)) {r : Bool} (h : l_FnExactFormatNumbers N v0 = some r) : Pure Tryd.prog 3 [DV.one (D.sl 1 (List.map Gx.encI v0))] (DV.one (D.b r)) := by
 refine pure_of_walk Tryd.tok Tryd.mixed Tryd.func3 (by kernel_rfl) fun W => ?_
 unfold l_FnExactFormatNumbers at h
 refine avb ?_
 refine lns (v0.length : Int) ?_
 refine avb ?_
 refine brb h ?_ ?_<;>intro _ h
 ·cases h;exact eq_by
 ·refine plb ?_;refine call_sel (E := fun (x : (List (Int))) => DV.one (D.sl 1 (List.map Gx.encI x))) h (fun x1 h1 => (l_toIntS_ok N v0 h1)) (fun x1 hx1 h => ?_)
  refine avb ?_
  refine plb ?_;refine call_sel (E := fun (x : (List UInt8)) => DV.one (D.s x)) h (fun x2 h1 => (s_FormatNumbers_ok N x1 h1)) (fun x2 hx2 h => ?_)
  refine avb ?_
  refine plb ?_;refine call_sel (E := fun (x : (List (Int))) => DV.one (D.sl 1 (List.map Gx.encI x))) h (fun x3 h1 => (l_toIntS_ok N v0 h1)) (fun x3 hx3 h => ?_)
  refine avb ?_
  refine plb ?_;refine call_sel (E := fun (x : (List UInt8)) => DV.one (D.s x)) h (fun x4 h1 => (i_FormatNumbers_ok N x3 h1)) (fun x4 hx4 h => ?_)
  refine avb ?_
  refine brb h ?_ ?_<;>intro _ h
  ·cases h;exact eq_by
  ·refine plb ?_;refine call_sel (E := fun (x : (List (Int))) => DV.one (D.sl 1 (List.map Gx.encI x))) h (fun x5 h1 => (l_toIntS_ok N v0 h1)) (fun x5 hx5 h => ?_)
   refine avb ?_
   refine plb ?_;refine call_sel (E := fun (x : Bool) => DV.one (D.b x)) h (fun x6 h1 => (l_eqIntS_ok N x3 x5 h1)) (fun x6 hx6 h => ?_)
   refine avb ?_
   refine brb h ?_ ?_<;>intro _ h
   ·cases h;exact eq_by
   ·cases h;exact eq_by
end Lw
end Go.Proofs
