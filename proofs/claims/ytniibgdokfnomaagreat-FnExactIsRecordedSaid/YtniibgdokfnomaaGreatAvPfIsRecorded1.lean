/- PRINTED BY gen.py (mine): their contracts. -/
import Derived.Test.YtniibgdokfnomaaGreatAvPfIsRecorded0
namespace Go.Proofs
open Go Go.Av
set_option maxRecDepth 100000
set_option maxHeartbeats 40000000
set_option linter.unusedVariables false
set_option linter.unusedSimpArgs false
namespace Lw
theorem i_layout_ok (N:Nat) (v0:Gx.Grid) {r:(List (List (Int)))} (h:i_layout N v0=some r):Pure Tryz.prog 195 [DV.agg (Gx.Grid.enc v0)] (DV.one (D.sl 1 (List.map (Gx.encL 1 Gx.encI) r))):=by
 refine pure_of_walk Tryz.tok Tryz.mixed Tryz.func195 (by kernel_rfl) fun W=>?_
 unfold i_layout at h
 refine ab0 ?_
 refine W.r_seq ?_
 refine ab0 ?_
 refine W.r_seq ?_
 refine ab0 ?_
 obtain ⟨zt4,h,gt4⟩:=bnd_some h
 refine W.r_cut (fun (t4:(List (List (Int))))=>⟨[(3,.sl 1)],[(1,some (.arr 1 (List.map (Gx.encL 1 Gx.encI) t4) true))],1000⟩) (fun t=>t=zt4) ?_ ?_
 ·refine avb ?_
  refine plb ?_;refine call_sel (E:=fun (x:(List (Gx.Slot)))=>DV.one (D.sl 4 (List.map Gx.Slot.enc x))) h (fun x1 h1=>(i_SlotsOf_ok N v0 h1)) (fun x1 hx1 h=>?_)
  refine avb ?_
  refine lns (x1.length:Int) ?_
  refine avb ?_
  refine loop_lp (fun (p1:(List (List (Int)))×Int)=>⟨[(1,.ptr 1 0 0),(3,.sl 2),(7,.sl 3),(8,.d (D.i (x1.length:Int))),(9,.d (D.i p1.2))],[(1,some (.box [.d (D.i v0.mRows),.d (D.i v0.mCols),.d (D.s v0.mCells)])),(2,some (.arr 1 (List.map (Gx.encL 1 Gx.encI) p1.1) true)),(3,some (.arr 4 (List.map Gx.Slot.enc x1) true))],1000⟩) h ?_ ?_
  ·exact weak_by
  intro np1 p1 yp1 h hfp1
  unfold i_layout_L1 at h
  refine avb ?_
  refine brb h ?_ ?_<;>intro _ h
  ·refine idxp_sel h (fun x2 hx2 h=>?_)
   refine avb ?_
   refine ldp_sel hx2 ?_
   refine avb ?_
   refine plb ?_;refine call_sel (E:=fun (x:(List (Int)))=>DV.one (D.sl 1 (List.map Gx.encI x))) h (fun x3 h1=>(i_cells_ok N v0 x2 h1)) (fun x3 hx3 h=>?_)
   refine avb ?_
   refine app_sel h (app_ok (by (first|rfl|simp [sub])) (by (first|rfl|simp [sub])) (by decide)) (by (intro h;cases h)) (fun h=>?_)
   refine avb ?_
   exact lbk hfp1 h
  ·have h:=finr hfp1 h
   refine cut_at (p1.1) (some_in h) ?_
   exact weak_by
 rintro t4 rfl
 have h:_=some _:=gt4
 refine avb ?_
 cases h;exact eq_by

theorem i_readCells_ok (N:Nat) (v0:List UInt8) (v1:List (Int)) {r:(List UInt8)} (h:i_readCells N v0 v1=some r):Pure Tryz.prog 196 [DV.one (D.s v0),DV.one (D.sl 1 (List.map Gx.encI v1))] (DV.one (D.s r)):=by
 refine pure_of_walk Tryz.tok Tryz.mixed Tryz.func196 (by kernel_rfl) fun W=>?_
 unfold i_readCells at h
 refine ab0 ?_
 refine W.r_seq ?_
 refine ab0 ?_
 refine W.r_seq ?_
 refine ab0 ?_
 obtain ⟨zt2,h,gt2⟩:=bnd_some h
 refine W.r_cut (fun (t2:(List (UInt8)))=>⟨[(5,.sl 1)],[(1,some (.arr 1 (List.map encU t2) true))],1000⟩) (fun t=>t=zt2) ?_ ?_
 ·refine avb ?_
  refine lns (v1.length:Int) ?_
  refine avb ?_
  refine loop_lp (fun (p1:(List (UInt8))×Int)=>⟨[(0,.d (D.s v0)),(5,.sl 1),(8,.d (D.sl 1 (List.map Gx.encI v1))),(9,.d (D.i (v1.length:Int))),(10,.d (D.i p1.2))],[(1,some (.arr 1 (List.map encU p1.1) true))],1000⟩) h ?_ ?_
  ·exact weak_by
  intro np1 p1 yp1 h hfp1
  unfold i_readCells_L1 at h
  refine avb ?_
  refine brb h ?_ ?_<;>intro _ h
  ·refine idx_sel h (fun x1 hx1 h=>?_)
   refine avb ?_
   refine chk_sel h (fun q=>q) (fun h=>?_)
   refine avb ?_
   refine app_sel h (app_ok (by (first|rfl|simp [sub])) (by (first|rfl|simp [sub])) (by decide)) (by (intro h;cases h)) (fun h=>?_)
   refine avb ?_
   exact lbk hfp1 h
  ·have h:=finr hfp1 h
   refine cut_at (p1.1) (some_in h) ?_
   exact weak_by
 rintro t2 rfl
 have h:_=some _:=gt2
 refine avb ?_
 refine ⟨t2,(by (exact eq_by)),?_⟩
 refine avb ?_
 cases h;exact eq_by

theorem i_patterns_ok (N:Nat) (v0:Gx.Grid) (v1:List UInt8) {r:(List (List UInt8))} (h:i_patterns N v0 v1=some r):Pure Tryz.prog 156 [DV.agg (Gx.Grid.enc v0),DV.one (D.s v1)] (DV.one (D.sl 1 (List.map Gx.encS r))):=by
 refine pure_of_walk Tryz.tok Tryz.mixed Tryz.func156 (by kernel_rfl) fun W=>?_
 unfold i_patterns at h
 refine avb ?_
 refine plb ?_;refine call_sel (E:=fun (x:Bool)=>DV.one (D.b x)) h (fun x1 h1=>(i_IsFill_ok N v0 v1 h1)) (fun x1 hx1 h=>?_)
 refine avb ?_
 refine br_sel h (fun _ h=>?_) (fun _ h=>?_)
 ·refine avb ?_
  cases h;exact eq_by
 ·refine ab0 ?_
  refine W.r_seq ?_
  refine ab0 ?_
  obtain ⟨zt5,h,gt5⟩:=bnd_some h
  refine W.r_cut (fun (t5:(List (List UInt8)))=>⟨[(5,.sl 1)],[(1,some (.arr 1 (List.map Gx.encS t5) true))],1000⟩) (fun t=>t=zt5) ?_ ?_
  ·refine avb ?_
   refine plb ?_;refine call_sel (E:=fun (x:(List (List (Int))))=>DV.one (D.sl 1 (List.map (Gx.encL 1 Gx.encI) x))) h (fun x2 h1=>(i_layout_ok N v0 h1)) (fun x2 hx2 h=>?_)
   refine avb ?_
   refine lns (x2.length:Int) ?_
   refine avb ?_
   refine loop_lp (fun (p1:(List (List UInt8))×Int)=>⟨[(1,.d (D.s v1)),(5,.sl 1),(13,.sl 2),(14,.d (D.i (x2.length:Int))),(15,.d (D.i p1.2))],[(1,some (.arr 1 (List.map Gx.encS p1.1) true)),(2,some (.arr 1 (List.map (Gx.encL 1 Gx.encI) x2) true))],1000⟩) h ?_ ?_
   ·exact weak_by
   intro np1 p1 yp1 h hfp1
   unfold i_patterns_L1 at h
   refine avb ?_
   refine brb h ?_ ?_<;>intro _ h
   ·refine idxp_sel h (fun x3 hx3 h=>?_)
    refine avb ?_
    refine ldp_sel hx3 ?_
    refine avb ?_
    refine plb ?_;refine call_sel (E:=fun (x:(List UInt8))=>DV.one (D.s x)) h (fun x4 h1=>(i_readCells_ok N v1 x3 h1)) (fun x4 hx4 h=>?_)
    refine avb ?_
    refine app_sel h (app_ok (by (first|rfl|simp [sub])) (by (first|rfl|simp [sub])) (by decide)) (by (intro h;cases h)) (fun h=>?_)
    refine avb ?_
    exact lbk hfp1 h
   ·have h:=finr hfp1 h
    refine cut_at (p1.1) (some_in h) ?_
    exact weak_by
  rintro t5 rfl
  have h:_=some _:=gt5
  refine avb ?_
  cases h;exact eq_by

theorem i_openIn_ok (N:Nat) (v0:List UInt8) {r:Int} (h:i_openIn N v0=some r):Pure Tryz.prog 172 [DV.one (D.s v0)] (DV.one (D.i r)):=by
 refine pure_of_walk Tryz.tok Tryz.mixed Tryz.func172 (by kernel_rfl) fun W=>?_
 unfold i_openIn at h
 refine ab0 ?_
 refine W.r_seq ?_
 refine ab0 ?_
 refine W.r_seq ?_
 refine ab0 ?_
 obtain ⟨zt1,h,gt1⟩:=bnd_some h
 refine W.r_cut (fun (t1:Int)=>⟨[(3,.d (D.i t1))],[],1000⟩) (fun t=>t=zt1) ?_ ?_
 ·refine avb ?_
  refine lns (v0.length:Int) ?_
  refine avb ?_
  refine loop_lp (fun (p1:Int×Int)=>⟨[(0,.d (D.s v0)),(3,.d (D.i p1.1)),(6,.d (D.i (v0.length:Int))),(7,.d (D.i p1.2))],[],1000⟩) h ?_ ?_
  ·exact weak_by
  intro np1 p1 yp1 h hfp1
  unfold i_openIn_L1 at h
  refine avb ?_
  refine brb h ?_ ?_<;>intro _ h
  ·refine chk_sel h (fun q=>q) (fun h=>?_)
   refine avb ?_
   refine brb h ?_ ?_<;>intro _ h
   ·exact lbk hfp1 h
   ·exact lbk hfp1 h
  ·have h:=finr hfp1 h
   refine cut_at (p1.1) (some_in h) ?_
   exact weak_by
 rintro t1 rfl
 have h:_=some _:=gt1
 refine avb ?_
 cases h;exact eq_by

theorem i_WordsIn_1_ok (N:Nat) (v0:List UInt8) {r:Bool} (h:i_WordsIn_1 N v0=some r):Pure Tryz.prog 171 [DV.one (D.s v0)] (DV.one (D.b r)):=by
 refine pure_of_walk Tryz.tok Tryz.mixed Tryz.func171 (by kernel_rfl) fun W=>?_
 unfold i_WordsIn_1 at h
 refine avb ?_
 refine plb ?_;refine call_sel (E:=fun (x:Int)=>DV.one (D.i x)) h (fun x1 h1=>(i_openIn_ok N v0 h1)) (fun x1 hx1 h=>?_)
 refine avb ?_
 cases h;exact eq_by

theorem i_those_ok0 (N:Nat) (v0:List (List UInt8)) (v1:(List UInt8)→Option Bool) (fv1:FuncId) (hv1:∀a0 r,v1 a0=some r→Pure Tryz.prog fv1 [DV.one (D.s a0)] (DV.one (D.b r))) {r:(List (List UInt8))} (h:i_those N v0 v1=some r):Pure Tryz.prog 170 [DV.one (D.sl 1 (List.map Gx.encS v0)),DV.fn fv1 []] (DV.one (D.sl 1 (List.map Gx.encS r))):=by
 refine pure_of_walk Tryz.tok Tryz.mixed Tryz.func170 (by kernel_rfl) fun W=>?_
 unfold i_those at h
 refine ab0 ?_
 refine W.r_seq ?_
 refine ab0 ?_
 refine W.r_seq ?_
 refine ab0 ?_
 obtain ⟨zt3,h,gt3⟩:=bnd_some h
 refine W.r_cut (fun (t3:(List (List UInt8)))=>⟨[(5,.sl 1)],[(1,some (.arr 1 (List.map Gx.encS t3) true))],1000⟩) (fun t=>t=zt3) ?_ ?_
 ·refine avb ?_
  refine lns (v0.length:Int) ?_
  refine avb ?_
  refine loop_lp (fun (p1:(List (List UInt8))×Int)=>⟨[(1,.fn fv1 []),(5,.sl 1),(8,.d (D.sl 1 (List.map Gx.encS v0))),(9,.d (D.i (v0.length:Int))),(10,.d (D.i p1.2))],[(1,some (.arr 1 (List.map Gx.encS p1.1) true))],1000⟩) h ?_ ?_
  ·exact weak_by
  intro np1 p1 yp1 h hfp1
  unfold i_those_L1 at h
  refine avb ?_
  refine brb h ?_ ?_<;>intro _ h
  ·refine idx_sel h (fun x1 hx1 h=>?_)
   refine avb ?_
   refine plb ?_;refine call_sel (E:=fun (x:Bool)=>DV.one (D.b x)) h (fun x2 h1=>(hv1 _ _ h1)) (fun x2 hx2 h=>?_)
   refine avb ?_
   refine brb h ?_ ?_<;>intro _ h
   ·refine app_sel h (app_ok (by (first|rfl|simp [sub])) (by (first|rfl|simp [sub])) (by decide)) (by (intro h;cases h)) (fun h=>?_)
    refine avb ?_
    exact lbk hfp1 h
   ·exact lbk hfp1 h
  ·have h:=finr hfp1 h
   refine cut_at (p1.1) (some_in h) ?_
   exact weak_by
 rintro t3 rfl
 have h:_=some _:=gt3
 refine avb ?_
 cases h;exact eq_by

theorem i_WordsIn_ok (N:Nat) (v0:Gx.Grid) (v1:List UInt8) {r:(List (List UInt8))} (h:i_WordsIn N v0 v1=some r):Pure Tryz.prog 99 [DV.agg (Gx.Grid.enc v0),DV.one (D.s v1)] (DV.one (D.sl 1 (List.map Gx.encS r))):=by
 refine pure_of_walk Tryz.tok Tryz.mixed Tryz.func99 (by kernel_rfl) fun W=>?_
 unfold i_WordsIn at h
 refine avb ?_
 refine plb ?_;refine call_sel (E:=fun (x:(List (List UInt8)))=>DV.one (D.sl 1 (List.map Gx.encS x))) h (fun x1 h1=>(i_patterns_ok N v0 v1 h1)) (fun x1 hx1 h=>?_)
 refine avb ?_
 refine plb ?_;refine call_sel (E:=fun (x:(List (List UInt8)))=>DV.one (D.sl 1 (List.map Gx.encS x))) h (fun x2 h1=>(i_those_ok0 N x1 (fun a0=>i_WordsIn_1 N a0) 171 (fun a0 _ hh=>i_WordsIn_1_ok N a0 hh) h1)) (fun x2 hx2 h=>?_)
 refine avb ?_
 cases h;exact eq_by

theorem i_Issue_words_ok (N:Nat) (v0:Gx.Issue) {r:(List (List UInt8))} (h:i_Issue_words N v0=some r):Pure Tryz.prog 41 [DV.agg (Gx.Issue.enc v0)] (DV.one (D.sl 1 (List.map Gx.encS r))):=by
 refine pure_of_walk Tryz.tok Tryz.mixed Tryz.func41 (by kernel_rfl) fun W=>?_
 unfold i_Issue_words at h
 refine avb ?_
 refine plb ?_;refine call_sel (E:=fun (x:(List (List UInt8)))=>DV.one (D.sl 1 (List.map Gx.encS x))) h (fun x1 h1=>(i_WordsIn_ok N v0.mPuzzle.mGrid v0.mFill h1)) (fun x1 hx1 h=>?_)
 refine avb ?_
 cases h;exact eq_by

theorem i_BeforeWord_ok (N:Nat) (v0:List UInt8) (v1:List UInt8) {r:Bool} (h:i_BeforeWord N v0 v1=some r):Pure Tryz.prog 124 [DV.one (D.s v0),DV.one (D.s v1)] (DV.one (D.b r)):=by
 refine pure_of_walk Tryz.tok Tryz.mixed Tryz.func124 (by kernel_rfl) fun W=>?_
 unfold i_BeforeWord at h
 refine avb ?_
 refine lns (v0.length:Int) ?_
 refine avb ?_
 refine lns (v1.length:Int) ?_
 refine avb ?_
 refine brb h ?_ ?_<;>intro _ h
 ·refine lns (v0.length:Int) ?_
  refine avb ?_
  refine lns (v1.length:Int) ?_
  refine avb ?_
  cases h;exact eq_by
 ·cases h;exact eq_by

theorem i_beforeUse_ok (N:Nat) (v0:Gx.Used) (v1:Gx.Used) {r:Bool} (h:i_beforeUse N v0 v1=some r):Pure Tryz.prog 96 [DV.agg (Gx.Used.enc v0),DV.agg (Gx.Used.enc v1)] (DV.one (D.b r)):=by
 refine pure_of_walk Tryz.tok Tryz.mixed Tryz.func96 (by kernel_rfl) fun W=>?_
 unfold i_beforeUse at h
 refine avb ?_
 refine brb h ?_ ?_<;>intro _ h
 ·cases h;exact eq_by
 ·refine plb ?_;refine call_sel (E:=fun (x:Bool)=>DV.one (D.b x)) h (fun x1 h1=>(i_BeforeWord_ok N v0.mWord v1.mWord h1)) (fun x1 hx1 h=>?_)
  refine avb ?_
  cases h;exact eq_by

theorem i_IsWord_ok (N:Nat) (v0:List UInt8) {r:Bool} (h:i_IsWord N v0=some r):Pure Tryz.prog 168 [DV.one (D.s v0)] (DV.one (D.b r)):=by
 refine pure_of_walk Tryz.tok Tryz.mixed Tryz.func168 (by kernel_rfl) fun W=>?_
 unfold i_IsWord at h
 refine avb ?_
 refine lns (v0.length:Int) ?_
 refine avb ?_
 refine plb ?_;refine call_sel (E:=fun (x:Bool)=>DV.one (D.b x)) h (fun x1 h1=>(i_InRange_ok N (v0.length:Int) 1 8 h1)) (fun x1 hx1 h=>?_)
 refine avb ?_
 refine br_sel h (fun _ h=>?_) (fun _ h=>?_)
 ·refine avb ?_
  cases h;exact eq_by
 ·refine ab0 ?_
  obtain ⟨zt3,h,gt3⟩:=cutb_some h
  refine W.r_cut (fun (t3:Unit)=>⟨[],[],1000⟩) (fun t=>.nx t=zt3) ?_ ?_
  ·refine avb ?_
   refine lns (v0.length:Int) ?_
   refine avb ?_
   refine loop_lp (fun (p1:Int)=>⟨[(0,.d (D.s v0)),(9,.d (D.i (v0.length:Int))),(10,.d (D.i p1))],[],1000⟩) h ?_ ?_
   ·exact weak_by
   intro np1 p1 yp1 h hfp1
   unfold i_IsWord_L1 at h
   refine avb ?_
   refine brb h ?_ ?_<;>intro _ h
   ·refine chk_sel h (fun q=>q) (fun h=>?_)
    refine avb ?_
    refine plb ?_;refine call_sel (E:=fun (x:Bool)=>DV.one (D.b x)) h (fun x2 h1=>(i_isLetter_ok N (byteI v0 p1) h1)) (fun x2 hx2 h=>?_)
    refine avb ?_
    refine brb h ?_ ?_<;>intro _ h
    ·have h:=finr hfp1 h
     have h:=cutr gt3 h
     cases h;exact eq_by
    ·exact lbk hfp1 h
   ·have h:=finr hfp1 h
    refine cut_at (()) (some_in h) ?_
    exact weak_by
  rintro t3 rfl
  have h:_=some _:=gt3
  refine avb ?_
  cases h;exact eq_by

theorem i_AreUses_ok (N:Nat) (v0:List (Gx.Used)) {r:Bool} (h:i_AreUses N v0=some r):Pure Tryz.prog 98 [DV.one (D.sl 2 (List.map Gx.Used.enc v0))] (DV.one (D.b r)):=by
 refine pure_of_walk Tryz.tok Tryz.mixed Tryz.func98 (by kernel_rfl) fun W=>?_
 unfold i_AreUses at h
 refine avb ?_
 refine lns (v0.length:Int) ?_
 refine avb ?_
 refine br_sel h (fun _ h=>?_) (fun _ h=>?_)
 ·refine avb ?_
  cases h;exact eq_by
 ·refine ab0 ?_
  obtain ⟨zt8,h,gt8⟩:=cutb_some h
  refine W.r_cut (fun (t8:Unit)=>⟨[],[],1000⟩) (fun t=>.nx t=zt8) ?_ ?_
  ·refine avb ?_
   refine lns (v0.length:Int) ?_
   refine avb ?_
   refine loop_lp (fun (p1:Int)=>⟨[(0,.d (D.sl 2 (List.map Gx.Used.enc v0))),(8,.d (D.sl 2 (List.map Gx.Used.enc v0))),(9,.d (D.i (v0.length:Int))),(10,.d (D.i p1))],[],1000⟩) h ?_ ?_
   ·exact weak_by
   intro np1 p1 yp1 h hfp1
   unfold i_AreUses_L1 at h
   refine avb ?_
   refine brb h ?_ ?_<;>intro _ h
   ·refine idx_sel h (fun x1 hx1 h=>?_)
    refine avb ?_
    refine brb h ?_ ?_<;>intro _ h
    ·refine idx_sel h (fun x2 hx2 h=>?_)
     refine avb ?_
     refine plb ?_;refine call_sel (E:=fun (x:Bool)=>DV.one (D.b x)) h (fun x3 h1=>(i_beforeUse_ok N x2 x1 h1)) (fun x3 hx3 h=>?_)
     refine avb ?_
     refine brb h ?_ ?_<;>intro _ h
     ·have h:=finr hfp1 h
      have h:=cutr gt8 h
      cases h;exact eq_by
     ·refine plb ?_;refine call_sel (E:=fun (x:Bool)=>DV.one (D.b x)) h (fun x4 h1=>(i_IsWord_ok N x1.mWord h1)) (fun x4 hx4 h=>?_)
      refine avb ?_
      refine brb h ?_ ?_<;>intro _ h
      ·have h:=finr hfp1 h
       have h:=cutr gt8 h
       cases h;exact eq_by
      ·refine plb ?_;refine call_sel (E:=fun (x:Bool)=>DV.one (D.b x)) h (fun x5 h1=>(i_InRange_ok N x1.mIssue 1 999 h1)) (fun x5 hx5 h=>?_)
       refine avb ?_
       refine brb h ?_ ?_<;>intro _ h
       ·have h:=finr hfp1 h
        have h:=cutr gt8 h
        cases h;exact eq_by
       ·exact lbk hfp1 h
    ·refine plb ?_;refine call_sel (E:=fun (x:Bool)=>DV.one (D.b x)) h (fun x6 h1=>(i_IsWord_ok N x1.mWord h1)) (fun x6 hx6 h=>?_)
     refine avb ?_
     refine brb h ?_ ?_<;>intro _ h
     ·have h:=finr hfp1 h
      have h:=cutr gt8 h
      cases h;exact eq_by
     ·refine plb ?_;refine call_sel (E:=fun (x:Bool)=>DV.one (D.b x)) h (fun x7 h1=>(i_InRange_ok N x1.mIssue 1 999 h1)) (fun x7 hx7 h=>?_)
      refine avb ?_
      refine brb h ?_ ?_<;>intro _ h
      ·have h:=finr hfp1 h
       have h:=cutr gt8 h
       cases h;exact eq_by
      ·exact lbk hfp1 h
   ·have h:=finr hfp1 h
    refine cut_at (()) (some_in h) ?_
    exact weak_by
  rintro t8 rfl
  have h:_=some _:=gt8
  refine avb ?_
  cases h;exact eq_by

theorem i_AddUses_ok (N:Nat) (v0:List (Gx.Used)) (v1:List (List UInt8)) (v2:Int) {r:(List (Gx.Used))×Bool} (h:i_AddUses N v0 v1 v2=some r):Pure Tryz.prog 40 [DV.one (D.sl 2 (List.map Gx.Used.enc v0)),DV.one (D.sl 1 (List.map Gx.encS v1)),DV.one (D.i v2)] (DV.tup [DV.one (D.sl 2 (List.map Gx.Used.enc r.1)),DV.one (D.b r.2)]):=by
 refine pure_of_walk Tryz.tok Tryz.mixed Tryz.func40 (by kernel_rfl) fun W=>?_
 unfold i_AddUses at h
 refine avb ?_
 refine plb ?_;refine call_sel (E:=fun (x:(List (Gx.Used)))=>DV.one (D.sl 2 (List.map Gx.Used.enc x))) h (fun x1 h1=>(g_slices_Clone_Simpl_Used_impl_Used_ok N v0 h1)) (fun x1 hx1 h=>?_)
 refine ab0 ?_
 obtain ⟨zt7,h,gt7⟩:=bnd_some h
 refine W.r_cut (fun (t7:(List (Gx.Used)))=>⟨[(0,.d (D.sl 2 (List.map Gx.Used.enc v0))),(8,.sl 1)],[(1,some (.arr 2 (List.map Gx.Used.enc t7) true))],1000⟩) (fun t=>t=zt7) ?_ ?_
 ·refine avb ?_
  refine lns (v1.length:Int) ?_
  refine avb ?_
  refine loop_lp (fun (p1:(List (Gx.Used))×Int)=>⟨[(0,.d (D.sl 2 (List.map Gx.Used.enc v0))),(2,.d (D.i v2)),(8,.sl 1),(15,.d (D.sl 1 (List.map Gx.encS v1))),(16,.d (D.i (v1.length:Int))),(17,.d (D.i p1.2))],[(1,some (.arr 2 (List.map Gx.Used.enc p1.1) true))],1000⟩) h ?_ ?_
  ·exact weak_by
  intro np1 p1 yp1 h hfp1
  unfold i_AddUses_L1 at h
  refine avb ?_
  refine brb h ?_ ?_<;>intro _ h
  ·refine idx_sel h (fun x2 hx2 h=>?_)
   refine ab0 ?_
   refine W.r_seq ?_
   refine ab0 ?_
   refine W.r_seq ?_
   refine ab0 ?_
   obtain ⟨zt5,h,gt5⟩:=bnd_some h
   refine W.r_cut (fun (t5:Int)=>⟨[(0,.d (D.sl 2 (List.map Gx.Used.enc v0))),(2,.d (D.i v2)),(8,.sl 1),(11,.ptr 2 0 0),(12,.d (D.i t5)),(15,.d (D.sl 1 (List.map Gx.encS v1))),(16,.d (D.i (v1.length:Int))),(17,.d (D.i p1.2))],[(1,some (.arr 2 (List.map Gx.Used.enc p1.1) true)),(2,some (.box [.d (D.s x2),.d (D.i v2)]))],1000⟩) (fun t=>t=zt5) ?_ ?_
   ·refine avb ?_
    refine loop_lp (fun (p2:Int)=>⟨[(0,.d (D.sl 2 (List.map Gx.Used.enc v0))),(2,.d (D.i v2)),(8,.sl 1),(11,.ptr 2 0 0),(12,.d (D.i p2)),(15,.d (D.sl 1 (List.map Gx.encS v1))),(16,.d (D.i (v1.length:Int))),(17,.d (D.i p1.2))],[(1,some (.arr 2 (List.map Gx.Used.enc p1.1) true)),(2,some (.box [.d (D.s x2),.d (D.i v2)]))],1000⟩) h ?_ ?_
    ·exact weak_by
    intro np2 p2 yp2 h hfp2
    unfold i_AddUses_L2 at h
    refine avb ?_
    refine lns (p1.1.length:Int) ?_
    refine avb ?_
    refine brb h ?_ ?_<;>intro _ h
    ·refine idxp_sel h (fun x3 hx3 h=>?_)
     refine avb ?_
     refine ldp_sel hx3 ?_
     refine avb ?_
     refine plb ?_;refine call_sel (E:=fun (x:Bool)=>DV.one (D.b x)) h (fun x4 h1=>(i_beforeUse_ok N x3 (⟨x2,v2⟩:Gx.Used) h1)) (fun x4 hx4 h=>?_)
     refine avb ?_
     refine brb h ?_ ?_<;>intro _ h
     ·exact lbk hfp2 h
     ·have h:=finr hfp2 h
      refine cut_at (p2) (some_in h) ?_
      exact weak_by
    ·have h:=finr hfp2 h
     refine cut_at (p2) (some_in h) ?_
     exact weak_by
   rintro t5 rfl
   have h:_=some _:=gt5
   refine avb ?_
   refine qtb ?_;refine turn_sel (O:=fun (x6:(List (Gx.Used)))=>[none,none,some (.arr 2 (List.map Gx.Used.enc x6) true)]) (V:=fun (x6:(List (Gx.Used)))=>.sl 2) h ⟨flat_map (fun _=>rfl),flat_eq (show _=List.map Gx.Used.enc ([(⟨x2,v2⟩:Gx.Used)]) by (exact eq_by)) (fun _=>rfl),trivial⟩ (fun x6 h1=>(g_slices_Insert_Simpl_Used_impl_Used_ok N p1.1 t5 ([(⟨x2,v2⟩:Gx.Used)]) h1)) (fun x6 hx6 h=>?_)
   refine avb ?_
   exact lbk hfp1 h
  ·have h:=finr hfp1 h
   refine cut_at (p1.1) (some_in h) ?_
   exact weak_by
 rintro t7 rfl
 have h:_=some _:=gt7
 refine avb ?_
 refine plb ?_;refine call_sel (E:=fun (x:Bool)=>DV.one (D.b x)) h (fun x8 h1=>(i_AreUses_ok N t7 h1)) (fun x8 hx8 h=>?_)
 refine avb ?_
 refine brb h ?_ ?_<;>intro _ h
 ·refine plb ?_;refine call_sel (E:=fun (x:(List (Gx.Used)))=>DV.one (D.sl 2 (List.map Gx.Used.enc x))) h (fun x9 h1=>(g_slices_Clone_Simpl_Used_impl_Used_ok N v0 h1)) (fun x9 hx9 h=>?_)
  refine avb ?_
  cases h;exact eq_by
 ·cases h;exact eq_by

theorem g_slices_Equal_Simpl_Used_impl_Used_ok (N:Nat) (v0:List (Gx.Used)) (v1:List (Gx.Used)) {r:Bool} (h:g_slices_Equal_Simpl_Used_impl_Used N v0 v1=some r):Pure Tryz.prog 42 [DV.one (D.sl 2 (List.map Gx.Used.enc v0)),DV.one (D.sl 2 (List.map Gx.Used.enc v1))] (DV.one (D.b r)):=by
 refine pure_of_walk Tryz.tok Tryz.mixed Tryz.func42 (by kernel_rfl) fun W=>?_
 unfold g_slices_Equal_Simpl_Used_impl_Used at h
 refine avb ?_
 refine lns (v0.length:Int) ?_
 refine avb ?_
 refine lns (v1.length:Int) ?_
 refine avb ?_
 refine br_sel h (fun _ h=>?_) (fun _ h=>?_)
 ·refine avb ?_
  cases h;exact eq_by
 ·refine ab0 ?_
  obtain ⟨zt3,h,gt3⟩:=cutb_some h
  refine W.r_cut (fun (t3:Unit)=>⟨[],[],1000⟩) (fun t=>.nx t=zt3) ?_ ?_
  ·refine avb ?_
   refine lns (v0.length:Int) ?_
   refine avb ?_
   refine loop_lp (fun (p1:Int)=>⟨[(0,.d (D.sl 2 (List.map Gx.Used.enc v0))),(1,.d (D.sl 2 (List.map Gx.Used.enc v1))),(12,.d (D.i (v0.length:Int))),(13,.d (D.i p1))],[],1000⟩) h ?_ ?_
   ·exact weak_by
   intro np1 p1 yp1 h hfp1
   unfold g_slices_Equal_Simpl_Used_impl_Used_L1 at h
   refine avb ?_
   refine brb h ?_ ?_<;>intro _ h
   ·refine idx_sel h (fun x1 hx1 h=>?_)
    refine avb ?_
    refine idx_sel h (fun x2 hx2 h=>?_)
    refine avb ?_
    refine brb h ?_ ?_<;>intro _ h
    ·have h:=finr hfp1 h
     have h:=cutr gt3 h
     cases h;exact eq_by
    ·exact lbk hfp1 h
   ·have h:=finr hfp1 h
    refine cut_at (()) (some_in h) ?_
    exact weak_by
  rintro t3 rfl
  have h:_=some _:=gt3
  refine avb ?_
  cases h;exact eq_by

theorem i_IsRecorded_ok (N:Nat) (v0:Gx.House) {r:Bool} (h:i_IsRecorded N v0=some r):Pure Tryz.prog 10 [DV.agg (Gx.House.enc v0)] (DV.one (D.b r)):=by
 refine pure_of_walk Tryz.tok Tryz.mixed Tryz.func10 (by kernel_rfl) fun W=>?_
 unfold i_IsRecorded at h
 refine ab0 ?_
 refine W.r_seq ?_
 refine ab0 ?_
 refine W.r_seq ?_
 refine ab0 ?_
 obtain ⟨zt4,h,gt4⟩:=cutb_some h
 refine W.r_cut (fun (t4:(List (Gx.Used)))=>⟨[(1,.ptr 1 0 0),(3,.sl 2)],[(1,some (.box [.d (D.sl 4 (List.map Gx.Listed.enc v0.mList)),.d (D.sl 2 (List.map Gx.Meaning.enc v0.mDict)),.d (D.i v0.mDesk.mGrid.mRows),.d (D.i v0.mDesk.mGrid.mCols),.d (D.s v0.mDesk.mGrid.mCells),.d (D.s v0.mDesk.mFill),.d (D.sl 2 (List.map Gx.Clue.enc v0.mDesk.mClues)),.d (D.i v0.mDesk.mVersion),.d (D.sl 10 (List.map Gx.Issue.enc v0.mIssues)),.d (D.sl 2 (List.map Gx.Used.enc v0.mUses)),.d (D.sl 5 (List.map Gx.Correction.enc v0.mCorrections)),.d (D.sl 4 (List.map Gx.Entry.enc v0.mEntries)),.d (D.i v0.mNow)])),(2,some (.arr 2 (List.map Gx.Used.enc t4) true))],1000⟩) (fun t=>.nx t=zt4) ?_ ?_
 ·refine avb ?_
  refine lns (v0.mIssues.length:Int) ?_
  refine avb ?_
  refine loop_lp (fun (p1:(List (Gx.Used))×Int)=>⟨[(1,.ptr 1 0 0),(3,.sl 2),(9,.d (D.sl 10 (List.map Gx.Issue.enc v0.mIssues))),(10,.d (D.i (v0.mIssues.length:Int))),(11,.d (D.i p1.2))],[(1,some (.box [.d (D.sl 4 (List.map Gx.Listed.enc v0.mList)),.d (D.sl 2 (List.map Gx.Meaning.enc v0.mDict)),.d (D.i v0.mDesk.mGrid.mRows),.d (D.i v0.mDesk.mGrid.mCols),.d (D.s v0.mDesk.mGrid.mCells),.d (D.s v0.mDesk.mFill),.d (D.sl 2 (List.map Gx.Clue.enc v0.mDesk.mClues)),.d (D.i v0.mDesk.mVersion),.d (D.sl 10 (List.map Gx.Issue.enc v0.mIssues)),.d (D.sl 2 (List.map Gx.Used.enc v0.mUses)),.d (D.sl 5 (List.map Gx.Correction.enc v0.mCorrections)),.d (D.sl 4 (List.map Gx.Entry.enc v0.mEntries)),.d (D.i v0.mNow)])),(2,some (.arr 2 (List.map Gx.Used.enc p1.1) true))],1000⟩) h ?_ ?_
  ·exact weak_by
  intro np1 p1 yp1 h hfp1
  unfold i_IsRecorded_L1 at h
  refine avb ?_
  refine brb h ?_ ?_<;>intro _ h
  ·refine idx_sel h (fun x1 hx1 h=>?_)
   refine avb ?_
   refine plb ?_;refine call_sel (E:=fun (x:(List (List UInt8)))=>DV.one (D.sl 1 (List.map Gx.encS x))) h (fun x2 h1=>(i_Issue_words_ok N x1 h1)) (fun x2 hx2 h=>?_)
   refine avb ?_
   refine plb ?_;refine call_sel (E:=fun (x:(List (Gx.Used))×Bool)=>DV.tup [DV.one (D.sl 2 (List.map Gx.Used.enc x.1)),DV.one (D.b x.2)]) h (fun x3 h1=>(i_AddUses_ok N p1.1 x2 x1.mNumber h1)) (fun x3 hx3 h=>?_)
   refine avb ?_
   refine brb h ?_ ?_<;>intro _ h
   ·have h:=finr hfp1 h
    have h:=cutr gt4 h
    cases h;exact eq_by
   ·exact lbk hfp1 h
  ·have h:=finr hfp1 h
   refine cut_at (p1.1) (some_in h) ?_
   exact weak_by
 rintro t4 rfl
 have h:_=some _:=gt4
 refine avb ?_
 refine plb ?_;refine call_sel (E:=fun (x:Bool)=>DV.one (D.b x)) h (fun x5 h1=>(g_slices_Equal_Simpl_Used_impl_Used_ok N t4 v0.mUses h1)) (fun x5 hx5 h=>?_)
 refine avb ?_
 cases h;exact eq_by

theorem l_eqListed_ok (N:Nat) (v0:Gx.Listed) (v1:Gx.Listed) {r:Bool} (h:l_eqListed N v0 v1=some r):Pure Tryz.prog 100 [DV.agg (Gx.Listed.enc v0),DV.agg (Gx.Listed.enc v1)] (DV.one (D.b r)):=by
 refine pure_of_walk Tryz.tok Tryz.mixed Tryz.func100 (by kernel_rfl) fun W=>?_
 unfold l_eqListed at h
 refine avb ?_
 refine brb h ?_ ?_<;>intro _ h
 ·cases h;exact eq_by
 ·refine brb h ?_ ?_<;>intro _ h
  ·cases h;exact eq_by
  ·refine brb h ?_ ?_<;>intro _ h
   ·cases h;exact eq_by
   ·refine brb h ?_ ?_<;>intro _ h
    ·cases h;exact eq_by
    ·cases h;exact eq_by

theorem l_eqListedS_ok (N:Nat) (v0:List (Gx.Listed)) (v1:List (Gx.Listed)) {r:Bool} (h:l_eqListedS N v0 v1=some r):Pure Tryz.prog 43 [DV.one (D.sl 4 (List.map Gx.Listed.enc v0)),DV.one (D.sl 4 (List.map Gx.Listed.enc v1))] (DV.one (D.b r)):=by
 refine pure_of_walk Tryz.tok Tryz.mixed Tryz.func43 (by kernel_rfl) fun W=>?_
 unfold l_eqListedS at h
 refine avb ?_
 refine lns (v0.length:Int) ?_
 refine avb ?_
 refine lns (v1.length:Int) ?_
 refine avb ?_
 refine br_sel h (fun _ h=>?_) (fun _ h=>?_)
 ·refine avb ?_
  cases h;exact eq_by
 ·refine ab0 ?_
  obtain ⟨zt4,h,gt4⟩:=cutb_some h
  refine W.r_cut (fun (t4:Unit)=>⟨[],[],1000⟩) (fun t=>.nx t=zt4) ?_ ?_
  ·refine avb ?_
   refine loop_lp (fun (p1:Int)=>⟨[(0,.d (D.sl 4 (List.map Gx.Listed.enc v0))),(1,.d (D.sl 4 (List.map Gx.Listed.enc v1))),(5,.d (D.i p1))],[],1000⟩) h ?_ ?_
   ·exact weak_by
   intro np1 p1 yp1 h hfp1
   unfold l_eqListedS_L1 at h
   refine avb ?_
   refine lns (v0.length:Int) ?_
   refine avb ?_
   refine brb h ?_ ?_<;>intro _ h
   ·refine idx_sel h (fun x1 hx1 h=>?_)
    refine avb ?_
    refine idx_sel h (fun x2 hx2 h=>?_)
    refine avb ?_
    refine plb ?_;refine call_sel (E:=fun (x:Bool)=>DV.one (D.b x)) h (fun x3 h1=>(l_eqListed_ok N x1 x2 h1)) (fun x3 hx3 h=>?_)
    refine avb ?_
    refine brb h ?_ ?_<;>intro _ h
    ·have h:=finr hfp1 h
     have h:=cutr gt4 h
     cases h;exact eq_by
    ·exact lbk hfp1 h
   ·have h:=finr hfp1 h
    refine cut_at (()) (some_in h) ?_
    exact weak_by
  rintro t4 rfl
  have h:_=some _:=gt4
  refine avb ?_
  cases h;exact eq_by

theorem l_eqMeaning_ok (N:Nat) (v0:Gx.Meaning) (v1:Gx.Meaning) {r:Bool} (h:l_eqMeaning N v0 v1=some r):Pure Tryz.prog 101 [DV.agg (Gx.Meaning.enc v0),DV.agg (Gx.Meaning.enc v1)] (DV.one (D.b r)):=by
 refine pure_of_walk Tryz.tok Tryz.mixed Tryz.func101 (by kernel_rfl) fun W=>?_
 unfold l_eqMeaning at h
 refine avb ?_
 refine brb h ?_ ?_<;>intro _ h
 ·cases h;exact eq_by
 ·refine brb h ?_ ?_<;>intro _ h
  ·cases h;exact eq_by
  ·cases h;exact eq_by

theorem l_eqMeaningS_ok (N:Nat) (v0:List (Gx.Meaning)) (v1:List (Gx.Meaning)) {r:Bool} (h:l_eqMeaningS N v0 v1=some r):Pure Tryz.prog 44 [DV.one (D.sl 2 (List.map Gx.Meaning.enc v0)),DV.one (D.sl 2 (List.map Gx.Meaning.enc v1))] (DV.one (D.b r)):=by
 refine pure_of_walk Tryz.tok Tryz.mixed Tryz.func44 (by kernel_rfl) fun W=>?_
 unfold l_eqMeaningS at h
 refine avb ?_
 refine lns (v0.length:Int) ?_
 refine avb ?_
 refine lns (v1.length:Int) ?_
 refine avb ?_
 refine br_sel h (fun _ h=>?_) (fun _ h=>?_)
 ·refine avb ?_
  cases h;exact eq_by
 ·refine ab0 ?_
  obtain ⟨zt4,h,gt4⟩:=cutb_some h
  refine W.r_cut (fun (t4:Unit)=>⟨[],[],1000⟩) (fun t=>.nx t=zt4) ?_ ?_
  ·refine avb ?_
   refine loop_lp (fun (p1:Int)=>⟨[(0,.d (D.sl 2 (List.map Gx.Meaning.enc v0))),(1,.d (D.sl 2 (List.map Gx.Meaning.enc v1))),(5,.d (D.i p1))],[],1000⟩) h ?_ ?_
   ·exact weak_by
   intro np1 p1 yp1 h hfp1
   unfold l_eqMeaningS_L1 at h
   refine avb ?_
   refine lns (v0.length:Int) ?_
   refine avb ?_
   refine brb h ?_ ?_<;>intro _ h
   ·refine idx_sel h (fun x1 hx1 h=>?_)
    refine avb ?_
    refine idx_sel h (fun x2 hx2 h=>?_)
    refine avb ?_
    refine plb ?_;refine call_sel (E:=fun (x:Bool)=>DV.one (D.b x)) h (fun x3 h1=>(l_eqMeaning_ok N x1 x2 h1)) (fun x3 hx3 h=>?_)
    refine avb ?_
    refine brb h ?_ ?_<;>intro _ h
    ·have h:=finr hfp1 h
     have h:=cutr gt4 h
     cases h;exact eq_by
    ·exact lbk hfp1 h
   ·have h:=finr hfp1 h
    refine cut_at (()) (some_in h) ?_
    exact weak_by
  rintro t4 rfl
  have h:_=some _:=gt4
  refine avb ?_
  cases h;exact eq_by

theorem l_eqGrid_ok (N:Nat) (v0:Gx.Grid) (v1:Gx.Grid) {r:Bool} (h:l_eqGrid N v0 v1=some r):Pure Tryz.prog 102 [DV.agg (Gx.Grid.enc v0),DV.agg (Gx.Grid.enc v1)] (DV.one (D.b r)):=by
 refine pure_of_walk Tryz.tok Tryz.mixed Tryz.func102 (by kernel_rfl) fun W=>?_
 unfold l_eqGrid at h
 refine avb ?_
 refine brb h ?_ ?_<;>intro _ h
 ·cases h;exact eq_by
 ·refine brb h ?_ ?_<;>intro _ h
  ·cases h;exact eq_by
  ·refine brb h ?_ ?_<;>intro _ h
   ·cases h;exact eq_by
   ·cases h;exact eq_by

theorem l_eqStep_ok (N:Nat) (v0:Gx.Step) (v1:Gx.Step) {r:Bool} (h:l_eqStep N v0 v1=some r):Pure Tryz.prog 249 [DV.agg (Gx.Step.enc v0),DV.agg (Gx.Step.enc v1)] (DV.one (D.b r)):=by
 refine pure_of_walk Tryz.tok Tryz.mixed Tryz.func249 (by kernel_rfl) fun W=>?_
 unfold l_eqStep at h
 refine avb ?_
 refine brb h ?_ ?_<;>intro _ h
 ·cases h;exact eq_by
 ·refine brb h ?_ ?_<;>intro _ h
  ·cases h;exact eq_by
  ·refine brb h ?_ ?_<;>intro _ h
   ·cases h;exact eq_by
   ·refine brb h ?_ ?_<;>intro _ h
    ·cases h;exact eq_by
    ·cases h;exact eq_by

theorem l_eqStepS_ok (N:Nat) (v0:List (Gx.Step)) (v1:List (Gx.Step)) {r:Bool} (h:l_eqStepS N v0 v1=some r):Pure Tryz.prog 211 [DV.one (D.sl 4 (List.map Gx.Step.enc v0)),DV.one (D.sl 4 (List.map Gx.Step.enc v1))] (DV.one (D.b r)):=by
 refine pure_of_walk Tryz.tok Tryz.mixed Tryz.func211 (by kernel_rfl) fun W=>?_
 unfold l_eqStepS at h
 refine avb ?_
 refine lns (v0.length:Int) ?_
 refine avb ?_
 refine lns (v1.length:Int) ?_
 refine avb ?_
 refine br_sel h (fun _ h=>?_) (fun _ h=>?_)
 ·refine avb ?_
  cases h;exact eq_by
 ·refine ab0 ?_
  obtain ⟨zt4,h,gt4⟩:=cutb_some h
  refine W.r_cut (fun (t4:Unit)=>⟨[],[],1000⟩) (fun t=>.nx t=zt4) ?_ ?_
  ·refine avb ?_
   refine loop_lp (fun (p1:Int)=>⟨[(0,.d (D.sl 4 (List.map Gx.Step.enc v0))),(1,.d (D.sl 4 (List.map Gx.Step.enc v1))),(5,.d (D.i p1))],[],1000⟩) h ?_ ?_
   ·exact weak_by
   intro np1 p1 yp1 h hfp1
   unfold l_eqStepS_L1 at h
   refine avb ?_
   refine lns (v0.length:Int) ?_
   refine avb ?_
   refine brb h ?_ ?_<;>intro _ h
   ·refine idx_sel h (fun x1 hx1 h=>?_)
    refine avb ?_
    refine idx_sel h (fun x2 hx2 h=>?_)
    refine avb ?_
    refine plb ?_;refine call_sel (E:=fun (x:Bool)=>DV.one (D.b x)) h (fun x3 h1=>(l_eqStep_ok N x1 x2 h1)) (fun x3 hx3 h=>?_)
    refine avb ?_
    refine brb h ?_ ?_<;>intro _ h
    ·have h:=finr hfp1 h
     have h:=cutr gt4 h
     cases h;exact eq_by
    ·exact lbk hfp1 h
   ·have h:=finr hfp1 h
    refine cut_at (()) (some_in h) ?_
    exact weak_by
  rintro t4 rfl
  have h:_=some _:=gt4
  refine avb ?_
  cases h;exact eq_by

theorem l_eqClue_ok (N:Nat) (v0:Gx.Clue) (v1:Gx.Clue) {r:Bool} (h:l_eqClue N v0 v1=some r):Pure Tryz.prog 173 [DV.agg (Gx.Clue.enc v0),DV.agg (Gx.Clue.enc v1)] (DV.one (D.b r)):=by
 refine pure_of_walk Tryz.tok Tryz.mixed Tryz.func173 (by kernel_rfl) fun W=>?_
 unfold l_eqClue at h
 refine avb ?_
 refine brb h ?_ ?_<;>intro _ h
 ·cases h;exact eq_by
 ·refine plb ?_;refine call_sel (E:=fun (x:Bool)=>DV.one (D.b x)) h (fun x1 h1=>(l_eqStepS_ok N v0.mPlay v1.mPlay h1)) (fun x1 hx1 h=>?_)
  refine avb ?_
  refine brb h ?_ ?_<;>intro _ h
  ·cases h;exact eq_by
  ·cases h;exact eq_by

theorem l_eqClueS_ok (N:Nat) (v0:List (Gx.Clue)) (v1:List (Gx.Clue)) {r:Bool} (h:l_eqClueS N v0 v1=some r):Pure Tryz.prog 103 [DV.one (D.sl 2 (List.map Gx.Clue.enc v0)),DV.one (D.sl 2 (List.map Gx.Clue.enc v1))] (DV.one (D.b r)):=by
 refine pure_of_walk Tryz.tok Tryz.mixed Tryz.func103 (by kernel_rfl) fun W=>?_
 unfold l_eqClueS at h
 refine avb ?_
 refine lns (v0.length:Int) ?_
 refine avb ?_
 refine lns (v1.length:Int) ?_
 refine avb ?_
 refine br_sel h (fun _ h=>?_) (fun _ h=>?_)
 ·refine avb ?_
  cases h;exact eq_by
 ·refine ab0 ?_
  obtain ⟨zt4,h,gt4⟩:=cutb_some h
  refine W.r_cut (fun (t4:Unit)=>⟨[],[],1000⟩) (fun t=>.nx t=zt4) ?_ ?_
  ·refine avb ?_
   refine loop_lp (fun (p1:Int)=>⟨[(0,.d (D.sl 2 (List.map Gx.Clue.enc v0))),(1,.d (D.sl 2 (List.map Gx.Clue.enc v1))),(5,.d (D.i p1))],[],1000⟩) h ?_ ?_
   ·exact weak_by
   intro np1 p1 yp1 h hfp1
   unfold l_eqClueS_L1 at h
   refine avb ?_
   refine lns (v0.length:Int) ?_
   refine avb ?_
   refine brb h ?_ ?_<;>intro _ h
   ·refine idx_sel h (fun x1 hx1 h=>?_)
    refine avb ?_
    refine idx_sel h (fun x2 hx2 h=>?_)
    refine avb ?_
    refine plb ?_;refine call_sel (E:=fun (x:Bool)=>DV.one (D.b x)) h (fun x3 h1=>(l_eqClue_ok N x1 x2 h1)) (fun x3 hx3 h=>?_)
    refine avb ?_
    refine brb h ?_ ?_<;>intro _ h
    ·have h:=finr hfp1 h
     have h:=cutr gt4 h
     cases h;exact eq_by
    ·exact lbk hfp1 h
   ·have h:=finr hfp1 h
    refine cut_at (()) (some_in h) ?_
    exact weak_by
  rintro t4 rfl
  have h:_=some _:=gt4
  refine avb ?_
  cases h;exact eq_by

theorem l_eqDraft_ok (N:Nat) (v0:Gx.Draft) (v1:Gx.Draft) {r:Bool} (h:l_eqDraft N v0 v1=some r):Pure Tryz.prog 45 [DV.agg (Gx.Draft.enc v0),DV.agg (Gx.Draft.enc v1)] (DV.one (D.b r)):=by
 refine pure_of_walk Tryz.tok Tryz.mixed Tryz.func45 (by kernel_rfl) fun W=>?_
 unfold l_eqDraft at h
 refine avb ?_
 refine plb ?_;refine call_sel (E:=fun (x:Bool)=>DV.one (D.b x)) h (fun x1 h1=>(l_eqGrid_ok N v0.mGrid v1.mGrid h1)) (fun x1 hx1 h=>?_)
 refine avb ?_
 refine brb h ?_ ?_<;>intro _ h
 ·cases h;exact eq_by
 ·refine brb h ?_ ?_<;>intro _ h
  ·cases h;exact eq_by
  ·refine plb ?_;refine call_sel (E:=fun (x:Bool)=>DV.one (D.b x)) h (fun x2 h1=>(l_eqClueS_ok N v0.mClues v1.mClues h1)) (fun x2 hx2 h=>?_)
   refine avb ?_
   refine brb h ?_ ?_<;>intro _ h
   ·cases h;exact eq_by
   ·refine brb h ?_ ?_<;>intro _ h
    ·cases h;exact eq_by
    ·cases h;exact eq_by

theorem l_eqIntS_ok (N:Nat) (v0:List (Int)) (v1:List (Int)) {r:Bool} (h:l_eqIntS N v0 v1=some r):Pure Tryz.prog 212 [DV.one (D.sl 1 (List.map Gx.encI v0)),DV.one (D.sl 1 (List.map Gx.encI v1))] (DV.one (D.b r)):=by
 refine pure_of_walk Tryz.tok Tryz.mixed Tryz.func212 (by kernel_rfl) fun W=>?_
 unfold l_eqIntS at h
 refine avb ?_
 refine lns (v0.length:Int) ?_
 refine avb ?_
 refine lns (v1.length:Int) ?_
 refine avb ?_
 refine br_sel h (fun _ h=>?_) (fun _ h=>?_)
 ·refine avb ?_
  cases h;exact eq_by
 ·refine ab0 ?_
  obtain ⟨zt3,h,gt3⟩:=cutb_some h
  refine W.r_cut (fun (t3:Unit)=>⟨[],[],1000⟩) (fun t=>.nx t=zt3) ?_ ?_
  ·refine avb ?_
   refine loop_lp (fun (p1:Int)=>⟨[(0,.d (D.sl 1 (List.map Gx.encI v0))),(1,.d (D.sl 1 (List.map Gx.encI v1))),(5,.d (D.i p1))],[],1000⟩) h ?_ ?_
   ·exact weak_by
   intro np1 p1 yp1 h hfp1
   unfold l_eqIntS_L1 at h
   refine avb ?_
   refine lns (v0.length:Int) ?_
   refine avb ?_
   refine brb h ?_ ?_<;>intro _ h
   ·refine idx_sel h (fun x1 hx1 h=>?_)
    refine avb ?_
    refine idx_sel h (fun x2 hx2 h=>?_)
    refine avb ?_
    refine brb h ?_ ?_<;>intro _ h
    ·have h:=finr hfp1 h
     have h:=cutr gt3 h
     cases h;exact eq_by
    ·exact lbk hfp1 h
   ·have h:=finr hfp1 h
    refine cut_at (()) (some_in h) ?_
    exact weak_by
  rintro t3 rfl
  have h:_=some _:=gt3
  refine avb ?_
  cases h;exact eq_by

theorem l_eqPuzzle_ok (N:Nat) (v0:Gx.Puzzle) (v1:Gx.Puzzle) {r:Bool} (h:l_eqPuzzle N v0 v1=some r):Pure Tryz.prog 174 [DV.agg (Gx.Puzzle.enc v0),DV.agg (Gx.Puzzle.enc v1)] (DV.one (D.b r)):=by
 refine pure_of_walk Tryz.tok Tryz.mixed Tryz.func174 (by kernel_rfl) fun W=>?_
 unfold l_eqPuzzle at h
 refine avb ?_
 refine plb ?_;refine call_sel (E:=fun (x:Bool)=>DV.one (D.b x)) h (fun x1 h1=>(l_eqGrid_ok N v0.mGrid v1.mGrid h1)) (fun x1 hx1 h=>?_)
 refine avb ?_
 refine brb h ?_ ?_<;>intro _ h
 ·cases h;exact eq_by
 ·refine plb ?_;refine call_sel (E:=fun (x:Bool)=>DV.one (D.b x)) h (fun x2 h1=>(l_eqClueS_ok N v0.mClues v1.mClues h1)) (fun x2 hx2 h=>?_)
  refine avb ?_
  refine brb h ?_ ?_<;>intro _ h
  ·cases h;exact eq_by
  ·refine plb ?_;refine call_sel (E:=fun (x:Bool)=>DV.one (D.b x)) h (fun x3 h1=>(l_eqIntS_ok N v0.mSeals v1.mSeals h1)) (fun x3 hx3 h=>?_)
   refine avb ?_
   refine brb h ?_ ?_<;>intro _ h
   ·cases h;exact eq_by
   ·refine brb h ?_ ?_<;>intro _ h
    ·cases h;exact eq_by
    ·cases h;exact eq_by

theorem l_eqIssue_ok (N:Nat) (v0:Gx.Issue) (v1:Gx.Issue) {r:Bool} (h:l_eqIssue N v0 v1=some r):Pure Tryz.prog 104 [DV.agg (Gx.Issue.enc v0),DV.agg (Gx.Issue.enc v1)] (DV.one (D.b r)):=by
 refine pure_of_walk Tryz.tok Tryz.mixed Tryz.func104 (by kernel_rfl) fun W=>?_
 unfold l_eqIssue at h
 refine avb ?_
 refine brb h ?_ ?_<;>intro _ h
 ·cases h;exact eq_by
 ·refine plb ?_;refine call_sel (E:=fun (x:Bool)=>DV.one (D.b x)) h (fun x1 h1=>(l_eqPuzzle_ok N v0.mPuzzle v1.mPuzzle h1)) (fun x1 hx1 h=>?_)
  refine avb ?_
  refine brb h ?_ ?_<;>intro _ h
  ·cases h;exact eq_by
  ·refine brb h ?_ ?_<;>intro _ h
   ·cases h;exact eq_by
   ·refine brb h ?_ ?_<;>intro _ h
    ·cases h;exact eq_by
    ·refine brb h ?_ ?_<;>intro _ h
     ·cases h;exact eq_by
     ·cases h;exact eq_by

theorem l_eqIssueS_ok (N:Nat) (v0:List (Gx.Issue)) (v1:List (Gx.Issue)) {r:Bool} (h:l_eqIssueS N v0 v1=some r):Pure Tryz.prog 46 [DV.one (D.sl 10 (List.map Gx.Issue.enc v0)),DV.one (D.sl 10 (List.map Gx.Issue.enc v1))] (DV.one (D.b r)):=by
 refine pure_of_walk Tryz.tok Tryz.mixed Tryz.func46 (by kernel_rfl) fun W=>?_
 unfold l_eqIssueS at h
 refine avb ?_
 refine lns (v0.length:Int) ?_
 refine avb ?_
 refine lns (v1.length:Int) ?_
 refine avb ?_
 refine br_sel h (fun _ h=>?_) (fun _ h=>?_)
 ·refine avb ?_
  cases h;exact eq_by
 ·refine ab0 ?_
  obtain ⟨zt4,h,gt4⟩:=cutb_some h
  refine W.r_cut (fun (t4:Unit)=>⟨[],[],1000⟩) (fun t=>.nx t=zt4) ?_ ?_
  ·refine avb ?_
   refine loop_lp (fun (p1:Int)=>⟨[(0,.d (D.sl 10 (List.map Gx.Issue.enc v0))),(1,.d (D.sl 10 (List.map Gx.Issue.enc v1))),(5,.d (D.i p1))],[],1000⟩) h ?_ ?_
   ·exact weak_by
   intro np1 p1 yp1 h hfp1
   unfold l_eqIssueS_L1 at h
   refine avb ?_
   refine lns (v0.length:Int) ?_
   refine avb ?_
   refine brb h ?_ ?_<;>intro _ h
   ·refine idx_sel h (fun x1 hx1 h=>?_)
    refine avb ?_
    refine idx_sel h (fun x2 hx2 h=>?_)
    refine avb ?_
    refine plb ?_;refine call_sel (E:=fun (x:Bool)=>DV.one (D.b x)) h (fun x3 h1=>(l_eqIssue_ok N x1 x2 h1)) (fun x3 hx3 h=>?_)
    refine avb ?_
    refine brb h ?_ ?_<;>intro _ h
    ·have h:=finr hfp1 h
     have h:=cutr gt4 h
     cases h;exact eq_by
    ·exact lbk hfp1 h
   ·have h:=finr hfp1 h
    refine cut_at (()) (some_in h) ?_
    exact weak_by
  rintro t4 rfl
  have h:_=some _:=gt4
  refine avb ?_
  cases h;exact eq_by

theorem l_eqUsed_ok (N:Nat) (v0:Gx.Used) (v1:Gx.Used) {r:Bool} (h:l_eqUsed N v0 v1=some r):Pure Tryz.prog 105 [DV.agg (Gx.Used.enc v0),DV.agg (Gx.Used.enc v1)] (DV.one (D.b r)):=by
 refine pure_of_walk Tryz.tok Tryz.mixed Tryz.func105 (by kernel_rfl) fun W=>?_
 unfold l_eqUsed at h
 refine avb ?_
 refine brb h ?_ ?_<;>intro _ h
 ·cases h;exact eq_by
 ·refine brb h ?_ ?_<;>intro _ h
  ·cases h;exact eq_by
  ·cases h;exact eq_by

theorem l_eqUsedS_ok (N:Nat) (v0:List (Gx.Used)) (v1:List (Gx.Used)) {r:Bool} (h:l_eqUsedS N v0 v1=some r):Pure Tryz.prog 47 [DV.one (D.sl 2 (List.map Gx.Used.enc v0)),DV.one (D.sl 2 (List.map Gx.Used.enc v1))] (DV.one (D.b r)):=by
 refine pure_of_walk Tryz.tok Tryz.mixed Tryz.func47 (by kernel_rfl) fun W=>?_
 unfold l_eqUsedS at h
 refine avb ?_
 refine lns (v0.length:Int) ?_
 refine avb ?_
 refine lns (v1.length:Int) ?_
 refine avb ?_
 refine br_sel h (fun _ h=>?_) (fun _ h=>?_)
 ·refine avb ?_
  cases h;exact eq_by
 ·refine ab0 ?_
  obtain ⟨zt4,h,gt4⟩:=cutb_some h
  refine W.r_cut (fun (t4:Unit)=>⟨[],[],1000⟩) (fun t=>.nx t=zt4) ?_ ?_
  ·refine avb ?_
   refine loop_lp (fun (p1:Int)=>⟨[(0,.d (D.sl 2 (List.map Gx.Used.enc v0))),(1,.d (D.sl 2 (List.map Gx.Used.enc v1))),(5,.d (D.i p1))],[],1000⟩) h ?_ ?_
   ·exact weak_by
   intro np1 p1 yp1 h hfp1
   unfold l_eqUsedS_L1 at h
   refine avb ?_
   refine lns (v0.length:Int) ?_
   refine avb ?_
   refine brb h ?_ ?_<;>intro _ h
   ·refine idx_sel h (fun x1 hx1 h=>?_)
    refine avb ?_
    refine idx_sel h (fun x2 hx2 h=>?_)
    refine avb ?_
    refine plb ?_;refine call_sel (E:=fun (x:Bool)=>DV.one (D.b x)) h (fun x3 h1=>(l_eqUsed_ok N x1 x2 h1)) (fun x3 hx3 h=>?_)
    refine avb ?_
    refine brb h ?_ ?_<;>intro _ h
    ·have h:=finr hfp1 h
     have h:=cutr gt4 h
     cases h;exact eq_by
    ·exact lbk hfp1 h
   ·have h:=finr hfp1 h
    refine cut_at (()) (some_in h) ?_
    exact weak_by
  rintro t4 rfl
  have h:_=some _:=gt4
  refine avb ?_
  cases h;exact eq_by

theorem l_eqCorrection_ok (N:Nat) (v0:Gx.Correction) (v1:Gx.Correction) {r:Bool} (h:l_eqCorrection N v0 v1=some r):Pure Tryz.prog 106 [DV.agg (Gx.Correction.enc v0),DV.agg (Gx.Correction.enc v1)] (DV.one (D.b r)):=by
 refine pure_of_walk Tryz.tok Tryz.mixed Tryz.func106 (by kernel_rfl) fun W=>?_
 unfold l_eqCorrection at h
 refine avb ?_
 refine brb h ?_ ?_<;>intro _ h
 ·cases h;exact eq_by
 ·refine brb h ?_ ?_<;>intro _ h
  ·cases h;exact eq_by
  ·refine plb ?_;refine call_sel (E:=fun (x:Bool)=>DV.one (D.b x)) h (fun x1 h1=>(l_eqClue_ok N v0.mClue v1.mClue h1)) (fun x1 hx1 h=>?_)
   refine avb ?_
   refine brb h ?_ ?_<;>intro _ h
   ·cases h;exact eq_by
   ·refine brb h ?_ ?_<;>intro _ h
    ·cases h;exact eq_by
    ·cases h;exact eq_by

theorem l_eqCorrectionS_ok (N:Nat) (v0:List (Gx.Correction)) (v1:List (Gx.Correction)) {r:Bool} (h:l_eqCorrectionS N v0 v1=some r):Pure Tryz.prog 48 [DV.one (D.sl 5 (List.map Gx.Correction.enc v0)),DV.one (D.sl 5 (List.map Gx.Correction.enc v1))] (DV.one (D.b r)):=by
 refine pure_of_walk Tryz.tok Tryz.mixed Tryz.func48 (by kernel_rfl) fun W=>?_
 unfold l_eqCorrectionS at h
 refine avb ?_
 refine lns (v0.length:Int) ?_
 refine avb ?_
 refine lns (v1.length:Int) ?_
 refine avb ?_
 refine br_sel h (fun _ h=>?_) (fun _ h=>?_)
 ·refine avb ?_
  cases h;exact eq_by
 ·refine ab0 ?_
  obtain ⟨zt4,h,gt4⟩:=cutb_some h
  refine W.r_cut (fun (t4:Unit)=>⟨[],[],1000⟩) (fun t=>.nx t=zt4) ?_ ?_
  ·refine avb ?_
   refine loop_lp (fun (p1:Int)=>⟨[(0,.d (D.sl 5 (List.map Gx.Correction.enc v0))),(1,.d (D.sl 5 (List.map Gx.Correction.enc v1))),(5,.d (D.i p1))],[],1000⟩) h ?_ ?_
   ·exact weak_by
   intro np1 p1 yp1 h hfp1
   unfold l_eqCorrectionS_L1 at h
   refine avb ?_
   refine lns (v0.length:Int) ?_
   refine avb ?_
   refine brb h ?_ ?_<;>intro _ h
   ·refine idx_sel h (fun x1 hx1 h=>?_)
    refine avb ?_
    refine idx_sel h (fun x2 hx2 h=>?_)
    refine avb ?_
    refine plb ?_;refine call_sel (E:=fun (x:Bool)=>DV.one (D.b x)) h (fun x3 h1=>(l_eqCorrection_ok N x1 x2 h1)) (fun x3 hx3 h=>?_)
    refine avb ?_
    refine brb h ?_ ?_<;>intro _ h
    ·have h:=finr hfp1 h
     have h:=cutr gt4 h
     cases h;exact eq_by
    ·exact lbk hfp1 h
   ·have h:=finr hfp1 h
    refine cut_at (()) (some_in h) ?_
    exact weak_by
  rintro t4 rfl
  have h:_=some _:=gt4
  refine avb ?_
  cases h;exact eq_by

theorem l_eqEntry_ok (N:Nat) (v0:Gx.Entry) (v1:Gx.Entry) {r:Bool} (h:l_eqEntry N v0 v1=some r):Pure Tryz.prog 107 [DV.agg (Gx.Entry.enc v0),DV.agg (Gx.Entry.enc v1)] (DV.one (D.b r)):=by
 refine pure_of_walk Tryz.tok Tryz.mixed Tryz.func107 (by kernel_rfl) fun W=>?_
 unfold l_eqEntry at h
 refine avb ?_
 refine brb h ?_ ?_<;>intro _ h
 ·cases h;exact eq_by
 ·refine brb h ?_ ?_<;>intro _ h
  ·cases h;exact eq_by
  ·refine brb h ?_ ?_<;>intro _ h
   ·cases h;exact eq_by
   ·refine brb h ?_ ?_<;>intro _ h
    ·cases h;exact eq_by
    ·cases h;exact eq_by

theorem l_eqEntryS_ok (N:Nat) (v0:List (Gx.Entry)) (v1:List (Gx.Entry)) {r:Bool} (h:l_eqEntryS N v0 v1=some r):Pure Tryz.prog 49 [DV.one (D.sl 4 (List.map Gx.Entry.enc v0)),DV.one (D.sl 4 (List.map Gx.Entry.enc v1))] (DV.one (D.b r)):=by
 refine pure_of_walk Tryz.tok Tryz.mixed Tryz.func49 (by kernel_rfl) fun W=>?_
 unfold l_eqEntryS at h
 refine avb ?_
 refine lns (v0.length:Int) ?_
 refine avb ?_
 refine lns (v1.length:Int) ?_
 refine avb ?_
 refine br_sel h (fun _ h=>?_) (fun _ h=>?_)
 ·refine avb ?_
  cases h;exact eq_by
 ·refine ab0 ?_
  obtain ⟨zt4,h,gt4⟩:=cutb_some h
  refine W.r_cut (fun (t4:Unit)=>⟨[],[],1000⟩) (fun t=>.nx t=zt4) ?_ ?_
  ·refine avb ?_
   refine loop_lp (fun (p1:Int)=>⟨[(0,.d (D.sl 4 (List.map Gx.Entry.enc v0))),(1,.d (D.sl 4 (List.map Gx.Entry.enc v1))),(5,.d (D.i p1))],[],1000⟩) h ?_ ?_
   ·exact weak_by
   intro np1 p1 yp1 h hfp1
   unfold l_eqEntryS_L1 at h
   refine avb ?_
   refine lns (v0.length:Int) ?_
   refine avb ?_
   refine brb h ?_ ?_<;>intro _ h
   ·refine idx_sel h (fun x1 hx1 h=>?_)
    refine avb ?_
    refine idx_sel h (fun x2 hx2 h=>?_)
    refine avb ?_
    refine plb ?_;refine call_sel (E:=fun (x:Bool)=>DV.one (D.b x)) h (fun x3 h1=>(l_eqEntry_ok N x1 x2 h1)) (fun x3 hx3 h=>?_)
    refine avb ?_
    refine brb h ?_ ?_<;>intro _ h
    ·have h:=finr hfp1 h
     have h:=cutr gt4 h
     cases h;exact eq_by
    ·exact lbk hfp1 h
   ·have h:=finr hfp1 h
    refine cut_at (()) (some_in h) ?_
    exact weak_by
  rintro t4 rfl
  have h:_=some _:=gt4
  refine avb ?_
  cases h;exact eq_by

theorem l_eqHouse_ok (N:Nat) (v0:Gx.House) (v1:Gx.House) {r:Bool} (h:l_eqHouse N v0 v1=some r):Pure Tryz.prog 11 [DV.agg (Gx.House.enc v0),DV.agg (Gx.House.enc v1)] (DV.one (D.b r)):=by
 refine pure_of_walk Tryz.tok Tryz.mixed Tryz.func11 (by kernel_rfl) fun W=>?_
 unfold l_eqHouse at h
 refine avb ?_
 refine plb ?_;refine call_sel (E:=fun (x:Bool)=>DV.one (D.b x)) h (fun x1 h1=>(l_eqListedS_ok N v0.mList v1.mList h1)) (fun x1 hx1 h=>?_)
 refine avb ?_
 refine brb h ?_ ?_<;>intro _ h
 ·cases h;exact eq_by
 ·refine plb ?_;refine call_sel (E:=fun (x:Bool)=>DV.one (D.b x)) h (fun x2 h1=>(l_eqMeaningS_ok N v0.mDict v1.mDict h1)) (fun x2 hx2 h=>?_)
  refine avb ?_
  refine brb h ?_ ?_<;>intro _ h
  ·cases h;exact eq_by
  ·refine plb ?_;refine call_sel (E:=fun (x:Bool)=>DV.one (D.b x)) h (fun x3 h1=>(l_eqDraft_ok N v0.mDesk v1.mDesk h1)) (fun x3 hx3 h=>?_)
   refine avb ?_
   refine brb h ?_ ?_<;>intro _ h
   ·cases h;exact eq_by
   ·refine plb ?_;refine call_sel (E:=fun (x:Bool)=>DV.one (D.b x)) h (fun x4 h1=>(l_eqIssueS_ok N v0.mIssues v1.mIssues h1)) (fun x4 hx4 h=>?_)
    refine avb ?_
    refine brb h ?_ ?_<;>intro _ h
    ·cases h;exact eq_by
    ·refine plb ?_;refine call_sel (E:=fun (x:Bool)=>DV.one (D.b x)) h (fun x5 h1=>(l_eqUsedS_ok N v0.mUses v1.mUses h1)) (fun x5 hx5 h=>?_)
     refine avb ?_
     refine brb h ?_ ?_<;>intro _ h
     ·cases h;exact eq_by
     ·refine plb ?_;refine call_sel (E:=fun (x:Bool)=>DV.one (D.b x)) h (fun x6 h1=>(l_eqCorrectionS_ok N v0.mCorrections v1.mCorrections h1)) (fun x6 hx6 h=>?_)
      refine avb ?_
      refine brb h ?_ ?_<;>intro _ h
      ·cases h;exact eq_by
      ·refine plb ?_;refine call_sel (E:=fun (x:Bool)=>DV.one (D.b x)) h (fun x7 h1=>(l_eqEntryS_ok N v0.mEntries v1.mEntries h1)) (fun x7 hx7 h=>?_)
       refine avb ?_
       refine brb h ?_ ?_<;>intro _ h
       ·cases h;exact eq_by
       ·refine brb h ?_ ?_<;>intro _ h
        ·cases h;exact eq_by
        ·cases h;exact eq_by

theorem l_FnExactIsRecorded_ok (N:Nat) (v0:Gx.House) {r:Bool} (h:l_FnExactIsRecorded N v0=some r):Pure Tryz.prog 3 [DV.agg (Gx.House.enc v0)] (DV.one (D.b r)):=by
 refine pure_of_walk Tryz.tok Tryz.mixed Tryz.func3 (by kernel_rfl) fun W=>?_
 unfold l_FnExactIsRecorded at h
 refine avb ?_
 refine plb ?_;refine call_sel (E:=fun (x:Int)=>DV.one (D.i x)) h (fun x1 h1=>(l_szHouse_ok N v0 1048576 h1)) (fun x1 hx1 h=>?_)
 refine avb ?_
 refine brb h ?_ ?_<;>intro _ h
 ·cases h;exact eq_by
 ·refine plb ?_;refine call_sel (E:=fun (x:Gx.House)=>DV.agg (Gx.House.enc x)) h (fun x2 h1=>(l_toHouse_ok N v0 h1)) (fun x2 hx2 h=>?_)
  refine avb ?_
  refine plb ?_;refine call_sel (E:=fun (x:Bool)=>DV.one (D.b x)) h (fun x3 h1=>(s_IsRecorded_ok N x2 h1)) (fun x3 hx3 h=>?_)
  refine avb ?_
  refine plb ?_;refine call_sel (E:=fun (x:Gx.House)=>DV.agg (Gx.House.enc x)) h (fun x4 h1=>(l_toHouse_ok N v0 h1)) (fun x4 hx4 h=>?_)
  refine avb ?_
  refine plb ?_;refine call_sel (E:=fun (x:Bool)=>DV.one (D.b x)) h (fun x5 h1=>(i_IsRecorded_ok N x4 h1)) (fun x5 hx5 h=>?_)
  refine avb ?_
  refine brb h ?_ ?_<;>intro _ h
  ·cases h;exact eq_by
  ·refine plb ?_;refine call_sel (E:=fun (x:Gx.House)=>DV.agg (Gx.House.enc x)) h (fun x6 h1=>(l_toHouse_ok N v0 h1)) (fun x6 hx6 h=>?_)
   refine avb ?_
   refine plb ?_;refine call_sel (E:=fun (x:Bool)=>DV.one (D.b x)) h (fun x7 h1=>(l_eqHouse_ok N x4 x6 h1)) (fun x7 hx7 h=>?_)
   refine avb ?_
   refine brb h ?_ ?_<;>intro _ h
   ·cases h;exact eq_by
   ·cases h;exact eq_by
end Lw
end Go.Proofs
