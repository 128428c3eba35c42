/- the contracts of the library functions -/
import Derived.Test.YtniibgdokfnomaaGreatAvT
import Derived.Test.YtniibgdokfnomaaGreatAvIr
import Derived.WalkKit
import Derived.Lib.Walk
import Derived.Lib.Overlaps
import Derived.Shelf.Spec.SlicesInsertGrow
import Derived.Test.YtniibgdokfnomaaGreatAvCl
import Derived.Test.YtniibgdokfnomaaGreatAvShIsRecorded
import Derived.Test.YtniibgdokfnomaaGreatAvShelf
namespace Go.Proofs
open Go Go.Av
set_option maxRecDepth 100000
set_option maxHeartbeats 40000000
set_option linter.unusedVariables false
set_option linter.unusedSimpArgs false
namespace Lw
theorem g_slices_Clone_Simpl_Used_impl_Used_ok (N:Nat) (v0:List (Gx.Used)) {r:(List (Gx.Used))} (h:g_slices_Clone_Simpl_Used_impl_Used N v0=some r):Pure Tryz.prog 95 [DV.one (D.sl 2 (List.map Gx.Used.enc v0))] (DV.one (D.sl 2 (List.map Gx.Used.enc r))):=by
 unfold g_slices_Clone_Simpl_Used_impl_Used chk at h
 split at h
 ·rename_i hh
  cases h
  exact pure_cloneL Tryz.laysClone_f95 rfl rfl (Tryz.tok _ _ rfl) ⟨Tryz.f95,Tryz.func95,by kernel_rfl,by kernel_rfl⟩ rfl _ (flat_map fun _=>rfl) (by simpa using hh) (by decide)
 ·cases h
theorem ins_end97 (w:World) (n cap vcap vb b:Nat) (rv:Value) (W':World) (hz:∀ty,(Builtin.append_ #[44,44] ty #[.slice (some ⟨b,0,none⟩) n cap,.slice (some ⟨vb,0,none⟩) 1 vcap]).run Tryz.prog w=.ok rv W'):
  Calls Tryz.prog 97 #[.slice (some ⟨b,0,none⟩) n cap,.int .i64 n,.slice (some ⟨vb,0,none⟩) 1 vcap] w fun e w'=>e=.returned rv∧w'=W':=by
 go_enter Tryz.func97,Tryz.ntmps97
 go_wp2_with (at_builtin;refine Lib.wpList_append_run _ rfl _ _ _ _ rfl _ _ rfl rfl _ _ (hz _) ?_)
 all_goals (go_ret;exact ⟨rfl,rfl⟩)
theorem ins_none97 (w:World) (oa:Option Addr) (vcap vb:Nat) (rv:Value) (W':World) (hz:∀ty,(Builtin.append_ #[44,44] ty #[.slice oa 0 0,.slice (some ⟨vb,0,none⟩) 1 vcap]).run Tryz.prog w=.ok rv W'):
  Calls Tryz.prog 97 #[.slice oa 0 0,.int .i64 0,.slice (some ⟨vb,0,none⟩) 1 vcap] w fun e w'=>e=.returned rv∧w'=W':=by
 go_enter Tryz.func97,Tryz.ntmps97
 cases oa with
 | none=>
  go_wp2_with (at_builtin;refine Lib.wpList_append_run _ rfl _ _ _ _ rfl _ _ rfl rfl _ _ (hz _) ?_)
  all_goals (go_ret;exact ⟨rfl,rfl⟩)
 | some a=>
  obtain ⟨ab,ao,asp⟩:=a
  go_wp2_with (at_builtin;refine Lib.wpList_append_run _ rfl _ _ _ _ rfl _ _ rfl rfl _ _ (hz _) ?_)
  all_goals (go_ret;exact ⟨rfl,rfl⟩)
theorem ins_shift97 (w:World) (n i cap vcap vb b:Nat) (W1 W2:World) (hi:i<n) (hroom:n+1≤cap) (hmax:cap≤maxLen) (hn:n≤4194304)
  (hov:∀lb cb,(callFunc 166 #[.slice (some ⟨vb,0,none⟩) 1 vcap,.slice (some ⟨b,(i+1) * 2,none⟩) lb cb]).run Tryz.prog w=.ok (.value (.bool false)) w)
  (h1:∀ty dc sc,(Builtin.copy_ #[44,44] ty #[.slice (some ⟨b,(i+1) * 2,none⟩) (n - i) dc,.slice (some ⟨b,i * 2,none⟩) (n+1 - i) sc]).run Tryz.prog w.drew=.ok (goInt ((n - i:Nat):Int)) W1)
  (h2:∀ty dc,(Builtin.copy_ #[44,44] ty #[.slice (some ⟨b,i * 2,none⟩) (n+1 - i) dc,.slice (some ⟨vb,0,none⟩) 1 vcap]).run Tryz.prog W1=.ok (goInt 1) W2):
  Calls Tryz.prog 97 #[.slice (some ⟨b,0,none⟩) n cap,.int .i64 i,.slice (some ⟨vb,0,none⟩) 1 vcap] w fun e w'=>e=.returned (.slice (some ⟨b,0,none⟩) (n+1) cap)∧w'=W2:=by
 have mixed:=Tryz.mixed
 have hz1:¬ ((1:Int)=0):=by omega
 have hz2:¬ ((i:Int)=(n:Int)):=by omega
 have hw1:IntKind.i64.wrap ((i:Int)+1)=(i:Int)+1:=by rw [IntKind.wrap_i64];omega
 have hw2:IntKind.i64.wrap ((n:Int)+1)=(n:Int)+1:=by rw [IntKind.wrap_i64];omega
 have hc63:cap≤9223372036854775807:=by unfold maxLen at hmax;omega
 have hb1:(0:Int)≤(i:Int)+1:=by omega
 have hin:i≤n:=by omega
 have htn:((i:Int)+1).toNat=i+1:=by omega
 have hb2:¬ (cap=i+1):=by omega
 have hb3:(i:Int)≤(n:Int)+1:=by omega
 have hb4:¬ (cap=i):=by omega
 go_enter Tryz.func97,Tryz.ntmps97
 go_wp2_with (simp only [hov])
 go_region_law_o (refine Go.Proofs.step_copy_runI rfl _ _ 44 44 rfl _ _ (by simp [Act.eval,Act.put]) (by simp [Act.eval,Act.put]) (h1 _ _ _) ?_)
 go_wp2_with (at_builtin;refine Go.Proofs.wpList_copy_runI _ rfl _ _ 44 44 rfl _ _ rfl rfl (h2 _ _) ?_)
 go_ret
 exact ⟨rfl,rfl⟩
theorem ins_grow97 (w:World) (n i cap vcap vb b G:Nat) (W0 W1 W2:World) (hi:i<n) (hnc:n≤cap) (hroom:cap<n+1) (hmax:cap≤maxLen) (hG:n+1≤G) (hG2:G≤maxLen) (hn:n≤4194304)
  (h0:∀ty,(Builtin.append_ #[44,3] ty #[.slice (some ⟨b,0,none⟩) i cap,.int .i64 ((n:Int)+1 - (i:Int))]).run Tryz.prog w=.ok (.slice (some ⟨w.heap.size,0,none⟩) (n+1) G) W0)
  (h1:∀ty dc,(Builtin.copy_ #[44,44] ty #[.slice (some ⟨w.heap.size,i * 2,none⟩) (n+1 - i) dc,.slice (some ⟨vb,0,none⟩) 1 vcap]).run Tryz.prog W0=.ok (goInt 1) W1)
  (h2:∀ty dc sc,(Builtin.copy_ #[44,44] ty #[.slice (some ⟨w.heap.size,(i+1) * 2,none⟩) (n - i) dc,.slice (some ⟨b,i * 2,none⟩) (n - i) sc]).run Tryz.prog W1.drew=.ok (goInt ((n - i:Nat):Int)) W2):
  Calls Tryz.prog 97 #[.slice (some ⟨b,0,none⟩) n cap,.int .i64 i,.slice (some ⟨vb,0,none⟩) 1 vcap] w fun e w'=>e=.returned (.slice (some ⟨w.heap.size,0,none⟩) (n+1) G)∧w'=W2:=by
 have mixed:=Tryz.mixed
 have hz1:¬ ((1:Int)=0):=by omega
 have hz2:¬ ((i:Int)=(n:Int)):=by omega
 have hz3:(cap:Int)<(n:Int)+1:=by omega
 have hw1:IntKind.i64.wrap ((i:Int)+1)=(i:Int)+1:=by rw [IntKind.wrap_i64];omega
 have hw2:IntKind.i64.wrap ((n:Int)+1)=(n:Int)+1:=by rw [IntKind.wrap_i64];omega
 have hw3:IntKind.i64.wrap ((n:Int)+1 - (i:Int))=(n:Int)+1 - (i:Int):=by rw [IntKind.wrap_i64];omega
 have hG63:G≤9223372036854775807:=by unfold maxLen at hG2;omega
 have hc63:cap≤9223372036854775807:=by unfold maxLen at hmax;omega
 have hb1:(0:Int)≤(i:Int)+1:=by omega
 have hin:i≤n:=by omega
 have htn:((i:Int)+1).toNat=i+1:=by omega
 have hGi:¬ (G=i):=by omega
 have hGim:¬ (G=i+1):=by omega
 have hci:¬ (cap=i):=by omega
 have hb3:(i:Int)≤(n:Int):=by omega
 go_enter Tryz.func97,Tryz.ntmps97
 go_wp2_with (first
  | (at_builtin;refine Lib.wpList_append_run _ rfl _ _ _ _ rfl _ _ rfl rfl _ _ (h0 _) ?_)
  | (at_builtin;refine Go.Proofs.wpList_copy_runI _ rfl _ _ 44 44 rfl _ _ rfl rfl (h1 _ _) ?_))
 go_region_law_o (refine Go.Proofs.step_copy_runI rfl _ _ 44 44 rfl (.slice (some ⟨w.heap.size,(i+1) * 2,none⟩) (n - i) (G - (i+1))) (.slice (some ⟨b,i * 2,none⟩) (n - i) (cap - i)) (by simp [Act.eval,Act.put]) (by simp [Act.eval,Act.put]) (h2 3 (G - (i+1)) (cap - i)) ?_)
 go_wp2
 go_ret
 exact ⟨rfl,rfl⟩
theorem ins_ov97 (w:World) (vb vcap b o lb cb:Nat) (tA tB:TypeId) (kA kB:Nat) (hne:vb≠b) (hsa:w.shape? vb=some (tA,kA)) (hsb:w.shape? b=some (tB,kB)) (hkB:kB≠0) (hfa:w.frozen? ⟨vb,0,none⟩=false) (hfe:w.frozen? ⟨vb,kA,none⟩=false):
  (callFunc 166 #[.slice (some ⟨vb,0,none⟩) 1 vcap,.slice (some ⟨b,o,none⟩) lb cb]).run Tryz.prog w=.ok (.value (.bool false)) w:=by
 rw [run_callFunc_extern Tryz.func166 (by kernel_rfl) (by kernel_rfl) (by kernel_rfl) (e:=Extern.SlicesOverlaps.overlaps #[44,44] #[4]) (by kernel_rfl),
  Lib.run_overlaps_apart w 44 4 84 Tryz.underlying44 2 (fun w=>by kernel_rfl) ⟨vb,0,none⟩ ⟨b,o,none⟩ 1 vcap lb cb hne tA tB kA kB hsa hsb hkB hfa hfe]
 rfl
theorem g_slices_Insert_Simpl_Used_impl_Used_ok (N:Nat) (v0:List (Gx.Used)) (v1:Int) (v2:List (Gx.Used)) {r:List (Gx.Used)} (h:g_slices_Insert_Simpl_Used_impl_Used N v0 v1 v2=some r):Turn Tryz.prog 97 [.sl 0,.d (D.i v1),.sl 1] [.arr 2 (List.map Gx.Used.enc v0) true,.arr 2 (List.map Gx.Used.enc v2) true] [none,none,some (.arr 2 (List.map Gx.Used.enc r) true)] (.sl 2):=by
 unfold g_slices_Insert_Simpl_Used_impl_Used chk at h
 split at h
 ·rename_i hh
  obtain ⟨h0,h1,h2,h3⟩:=hh
  cases h
  obtain ⟨x,rfl⟩:=List.length_eq_one_iff.1 h3
  obtain ⟨i,rfl⟩:=Int.eq_ofNat_of_zero_le h0
  have hr:=insert_roads (P:=Tryz.prog) (F:=97) (t:=44) (e:=84) (k:=2) (OVF:=166) Tryz.underlying44 Tryz.underlying3 (by kernel_rfl) (by decide) ⟨Tryz.f97,Tryz.func97,by kernel_rfl,by kernel_rfl⟩ ins_ov97 ins_end97 ins_none97 ins_shift97 ins_grow97
   (v0.map Gx.Used.enc) (Gx.Used.enc x) i (fun d hd=>by
    obtain ⟨r,hr,hd⟩:=List.mem_flatten.1 hd
    obtain ⟨y,_,rfl⟩:=List.mem_map.1 hr
    simp only [Gx.Used.enc,List.mem_cons,List.not_mem_nil,or_false] at hd
    rcases hd with rfl | rfl
    all_goals exact ⟨_,rfl⟩) (fun d hd=>by
    simp only [Gx.Used.enc,List.mem_cons,List.not_mem_nil,or_false] at hd
    rcases hd with rfl | rfl
    all_goals exact ⟨_,rfl⟩) (by rw [List.length_map];omega) (by rw [List.length_map];exact h2)
  rw [Int.toNat_natCast]
  simpa [List.map_append,List.map_take,List.map_drop] using hr
 ·cases h
end Lw
end Go.Proofs
