/- PRINTED BY gen.py (mine): their contracts. -/
import Derived.Test.YtgmppfmemimkkaaAvPfDeskEvents0
namespace Go.Proofs
open Go Go.Av
set_option maxRecDepth 100000
set_option maxHeartbeats 40000000
set_option linter.unusedVariables false
set_option linter.unusedSimpArgs false
namespace Lw
theorem l_heldEventS_ok (N : Nat) (v0 : List (Gx.Event)) (v1 : Int) {r : Int} (h : l_heldEventS N v0 v1 = some r) : Pure Try.prog 14 [DV.one (D.sl 16 (List.map Gx.Event.enc v0)), DV.one (D.i v1)] (DV.one (D.i r)) := by
 refine pure_of_walk Try.tok Try.mixed Try.func14 (by kernel_rfl) fun W => ?_
 unfold l_heldEventS at h
 refine ab0 ?_
 refine W.r_seq ?_
 refine ab0 ?_
 obtain ⟨zt22, h, gt22⟩ := cutb_some h
 refine W.r_cut (fun (t22 : Int) => ⟨[(1, .d (D.i t22))], [], 1000⟩) (fun t => .nx t = zt22) ?_ ?_
 ·refine avb ?_
  refine loop_lp (fun (p1 : Int × Int) => ⟨[(0, .d (D.sl 16 (List.map Gx.Event.enc v0))), (1, .d (D.i p1.1)), (5, .d (D.i p1.2))], [], 1000⟩) h ?_ ?_
  ·exact weak_by
  intro np1 p1 yp1 h hfp1
  unfold l_heldEventS_L1 at h
  refine avb ?_
  refine lns (v0.length : Int) ?_
  refine avb ?_
  refine brb h ?_ ?_<;>intro _ h
  ·refine idx_sel h (fun x1 hx1 h => ?_)
   refine avb ?_
   refine brb h ?_ ?_<;>intro _ h
   ·have h := finr hfp1 h
    have h := cutr gt22 h
    cases h;exact eq_by
   ·refine idx_sel h (fun x2 hx2 h => ?_)
    refine avb ?_
    refine brb h ?_ ?_<;>intro _ h
    ·have h := finr hfp1 h
     have h := cutr gt22 h
     cases h;exact eq_by
    ·refine idx_sel h (fun x3 hx3 h => ?_)
     refine avb ?_
     refine brb h ?_ ?_<;>intro _ h
     ·have h := finr hfp1 h
      have h := cutr gt22 h
      cases h;exact eq_by
     ·refine idx_sel h (fun x4 hx4 h => ?_)
      refine avb ?_
      refine brb h ?_ ?_<;>intro _ h
      ·have h := finr hfp1 h
       have h := cutr gt22 h
       cases h;exact eq_by
      ·refine idx_sel h (fun x5 hx5 h => ?_)
       refine avb ?_
       refine plb ?_;refine call_sel (E := fun (x : (List UInt8)) => DV.one (D.s x)) h (fun x6 h1 => (l_markText_ok N (w64 ((w64 ((w64 ((w64 (p1.1 + 1)) + 1)) + 1)) + 1)) h1)) (fun x6 hx6 h => ?_)
       refine avb ?_
       refine brb h ?_ ?_<;>intro _ h
       ·have h := finr hfp1 h
        have h := cutr gt22 h
        cases h;exact eq_by
       ·refine idx_sel h (fun x7 hx7 h => ?_)
        refine avb ?_
        refine brb h ?_ ?_<;>intro _ h
        ·have h := finr hfp1 h
         have h := cutr gt22 h
         cases h;exact eq_by
        ·refine idx_sel h (fun x8 hx8 h => ?_)
         refine avb ?_
         refine brb h ?_ ?_<;>intro _ h
         ·have h := finr hfp1 h
          have h := cutr gt22 h
          cases h;exact eq_by
         ·refine idx_sel h (fun x9 hx9 h => ?_)
          refine avb ?_
          refine plb ?_;refine call_sel (E := fun (x : (List UInt8)) => DV.one (D.s x)) h (fun x10 h1 => (l_markText_ok N (w64 ((w64 ((w64 ((w64 ((w64 ((w64 ((w64 (p1.1 + 1)) + 1)) + 1)) + 1)) + 1)) + 1)) + 1)) h1)) (fun x10 hx10 h => ?_)
          refine avb ?_
          refine brb h ?_ ?_<;>intro _ h
          ·have h := finr hfp1 h
           have h := cutr gt22 h
           cases h;exact eq_by
          ·refine idx_sel h (fun x11 hx11 h => ?_)
           refine avb ?_
           refine brb h ?_ ?_<;>intro _ h
           ·have h := finr hfp1 h
            have h := cutr gt22 h
            cases h;exact eq_by
           ·refine idx_sel h (fun x12 hx12 h => ?_)
            refine avb ?_
            refine plb ?_;refine call_sel (E := fun (x : Int) => DV.one (D.i x)) h (fun x13 h1 => (l_heldStepS_ok N x12.mClue.mPlay (w64 ((w64 ((w64 ((w64 ((w64 ((w64 ((w64 ((w64 ((w64 (p1.1 + 1)) + 1)) + 1)) + 1)) + 1)) + 1)) + 1)) + 1)) + 1)) h1)) (fun x13 hx13 h => ?_)
            refine avb ?_
            refine brb h ?_ ?_<;>intro _ h
            ·have h := finr hfp1 h
             have h := cutr gt22 h
             cases h;exact eq_by
            ·refine idx_sel h (fun x14 hx14 h => ?_)
             refine avb ?_
             refine plb ?_;refine call_sel (E := fun (x : (List UInt8)) => DV.one (D.s x)) h (fun x15 h1 => (l_markText_ok N x13 h1)) (fun x15 hx15 h => ?_)
             refine avb ?_
             refine brb h ?_ ?_<;>intro _ h
             ·have h := finr hfp1 h
              have h := cutr gt22 h
              cases h;exact eq_by
             ·refine idx_sel h (fun x16 hx16 h => ?_)
              refine avb ?_
              refine brb h ?_ ?_<;>intro _ h
              ·have h := finr hfp1 h
               have h := cutr gt22 h
               cases h;exact eq_by
              ·refine idx_sel h (fun x17 hx17 h => ?_)
               refine avb ?_
               refine brb h ?_ ?_<;>intro _ h
               ·have h := finr hfp1 h
                have h := cutr gt22 h
                cases h;exact eq_by
               ·refine idx_sel h (fun x18 hx18 h => ?_)
                refine avb ?_
                refine brb h ?_ ?_<;>intro _ h
                ·have h := finr hfp1 h
                 have h := cutr gt22 h
                 cases h;exact eq_by
                ·refine idx_sel h (fun x19 hx19 h => ?_)
                 refine avb ?_
                 refine plb ?_;refine call_sel (E := fun (x : (List UInt8)) => DV.one (D.s x)) h (fun x20 h1 => (l_markText_ok N (w64 ((w64 ((w64 ((w64 (x13 + 1)) + 1)) + 1)) + 1)) h1)) (fun x20 hx20 h => ?_)
                 refine avb ?_
                 refine brb h ?_ ?_<;>intro _ h
                 ·have h := finr hfp1 h
                  have h := cutr gt22 h
                  cases h;exact eq_by
                 ·refine idx_sel h (fun x21 hx21 h => ?_)
                  refine avb ?_
                  refine brb h ?_ ?_<;>intro _ h
                  ·have h := finr hfp1 h
                   have h := cutr gt22 h
                   cases h;exact eq_by
                  ·exact lbk hfp1 h
  ·have h := finr hfp1 h
   refine cut_at (p1.1) (some_in h) ?_
   exact weak_by
 rintro t22 rfl
 have h : _ = some _ := gt22
 refine avb ?_
 cases h;exact eq_by

theorem l_FnExactDeskEvents_ok (N : Nat) (v0 : Gx.Grid) (v1 : List UInt8) (v2 : List (Gx.Clue)) {r : Bool} (h : l_FnExactDeskEvents N v0 v1 v2 = some r) : Pure Try.prog 3 [DV.agg (Gx.Grid.enc v0), DV.one (D.s v1), DV.one (D.sl 2 (List.map Gx.Clue.enc v2))] (DV.one (D.b r)) := by
 refine pure_of_walk Try.tok Try.mixed Try.func3 (by kernel_rfl) fun W => ?_
 unfold l_FnExactDeskEvents at h
 refine avb ?_
 refine lns (v1.length : Int) ?_
 refine avb ?_
 refine brb h ?_ ?_<;>intro _ h
 ·cases h;exact eq_by
 ·refine pdb ?_;refine call_sel (E := fun (x : Int) => DV.one (D.i x)) h (fun x1 h1 => (l_szGrid_ok N v0 1048576 h1)) (fun x1 hx1 h => ?_)
  refine avb ?_
  refine brb h ?_ ?_<;>intro _ h
  ·cases h;exact eq_by
  ·refine pdb ?_;refine call_sel (E := fun (x : Int) => DV.one (D.i x)) h (fun x2 h1 => (l_szClueS_ok N v2 x1 h1)) (fun x2 hx2 h => ?_)
   refine avb ?_
   refine brb h ?_ ?_<;>intro _ h
   ·cases h;exact eq_by
   ·refine pdb ?_;refine call_sel (E := fun (x : Gx.Grid) => DV.agg (Gx.Grid.enc x)) h (fun x3 h1 => (l_toGrid_ok N v0 h1)) (fun x3 hx3 h => ?_)
    refine avb ?_
    refine pdb ?_;refine call_sel (E := fun (x : (List (Gx.Clue))) => DV.one (D.sl 2 (List.map Gx.Clue.enc x))) h (fun x4 h1 => (l_toClueS_ok N v2 h1)) (fun x4 hx4 h => ?_)
    refine avb ?_
    refine pdb ?_;refine call_sel (E := fun (x : (List (Gx.Event))) => DV.one (D.sl 16 (List.map Gx.Event.enc x))) h (fun x5 h1 => (s_DeskEvents_ok N x3 v1 x4 h1)) (fun x5 hx5 h => ?_)
    refine avb ?_
    refine pdb ?_;refine call_sel (E := fun (x : (List (Gx.Clue))) => DV.one (D.sl 2 (List.map Gx.Clue.enc x))) h (fun x6 h1 => (l_toClueS_ok N v2 h1)) (fun x6 hx6 h => ?_)
    refine avb ?_
    refine pdb ?_;refine call_sel (E := fun (x : Gx.Grid) => DV.agg (Gx.Grid.enc x)) h (fun x7 h1 => (l_toGrid_ok N v0 h1)) (fun x7 hx7 h => ?_)
    refine avb ?_
    refine pdb ?_;refine call_sel (E := fun (x : (List (Gx.Event))) => DV.one (D.sl 16 (List.map Gx.Event.enc x))) h (fun x8 h1 => (i_DeskEvents_ok N x7 v1 x6 h1)) (fun x8 hx8 h => ?_)
    refine avb ?_
    refine pdb ?_;refine call_sel (E := fun (x : Bool) => DV.one (D.b x)) h (fun x9 h1 => (l_eqEventS_ok N x8 x5 h1)) (fun x9 hx9 h => ?_)
    refine avb ?_
    refine brb h ?_ ?_<;>intro _ h
    ·cases h;exact eq_by
    ·refine pdb ?_;refine call_sel (E := fun (x : (List (Gx.Clue))) => DV.one (D.sl 2 (List.map Gx.Clue.enc x))) h (fun x10 h1 => (l_toClueS_ok N v2 h1)) (fun x10 hx10 h => ?_)
     refine avb ?_
     refine pdb ?_;refine call_sel (E := fun (x : Bool) => DV.one (D.b x)) h (fun x11 h1 => (l_eqClueS_ok N x6 x10 h1)) (fun x11 hx11 h => ?_)
     refine avb ?_
     refine brb h ?_ ?_<;>intro _ h
     ·cases h;exact eq_by
     ·refine qtb ?_;refine turn_sel (O := fun (x12 : (List (Gx.Clue)) × Int) => [some (.deep 2 (List.map Gx.Clue.enc x12.1))]) (V := fun (x12 : (List (Gx.Clue)) × Int) => .d (D.i x12.2)) h trivial (fun x12 h1 => (l_markClueS_ok N x6 1 h1)) (fun x12 hx12 h => ?_)
      refine avb ?_
      refine brb h ?_ ?_<;>intro _ h
      ·cases h;exact eq_by
      ·refine pdb ?_;refine call_sel (E := fun (x : Bool) => DV.one (D.b x)) h (fun x13 h1 => (l_eqEventS_ok N x8 x5 h1)) (fun x13 hx13 h => ?_)
       refine avb ?_
       refine brb h ?_ ?_<;>intro _ h
       ·cases h;exact eq_by
       ·refine qtb ?_;refine turn_sel (O := fun (x14 : (List (Gx.Event)) × Int) => [some (.deep 16 (List.map Gx.Event.enc x14.1))]) (V := fun (x14 : (List (Gx.Event)) × Int) => .d (D.i x14.2)) h trivial (fun x14 h1 => (l_markEventS_ok N x8 1 h1)) (fun x14 hx14 h => ?_)
        refine avb ?_
        refine pdb ?_;refine call_sel (E := fun (x : Int) => DV.one (D.i x)) h (fun x15 h1 => (l_heldEventS_ok N x14.1 1 h1)) (fun x15 hx15 h => ?_)
        refine avb ?_
        refine brb h ?_ ?_<;>intro _ h
        ·cases h;exact eq_by
        ·refine brb h ?_ ?_<;>intro _ h
         ·cases h;exact eq_by
         ·refine pdb ?_;refine call_sel (E := fun (x : Gx.Grid) => DV.agg (Gx.Grid.enc x)) h (fun x16 h1 => (l_toGrid_ok N v0 h1)) (fun x16 hx16 h => ?_)
          refine avb ?_
          refine pdb ?_;refine call_sel (E := fun (x : (List (Gx.Clue))) => DV.one (D.sl 2 (List.map Gx.Clue.enc x))) h (fun x17 h1 => (l_toClueS_ok N v2 h1)) (fun x17 hx17 h => ?_)
          refine avb ?_
          refine pdb ?_;refine call_sel (E := fun (x : (List (Gx.Event))) => DV.one (D.sl 16 (List.map Gx.Event.enc x))) h (fun x18 h1 => (i_DeskEvents_ok N x16 v1 x17 h1)) (fun x18 hx18 h => ?_)
          refine avb ?_
          refine pdb ?_;refine call_sel (E := fun (x : Bool) => DV.one (D.b x)) h (fun x19 h1 => (l_eqEventS_ok N x18 x5 h1)) (fun x19 hx19 h => ?_)
          refine avb ?_
          refine brb h ?_ ?_<;>intro _ h
          ·cases h;exact eq_by
          ·refine pdb ?_;refine call_sel (E := fun (x : Int) => DV.one (D.i x)) h (fun x20 h1 => (l_heldEventS_ok N x14.1 1 h1)) (fun x20 hx20 h => ?_)
           refine avb ?_
           refine brb h ?_ ?_<;>intro _ h
           ·cases h;exact eq_by
           ·refine brb h ?_ ?_<;>intro _ h
            ·cases h;exact eq_by
            ·cases h;exact eq_by
end Lw
end Go.Proofs
