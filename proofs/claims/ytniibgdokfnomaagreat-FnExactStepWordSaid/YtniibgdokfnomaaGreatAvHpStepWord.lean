/- the contracts of the library functions -/
import Derived.Test.YtniibgdokfnomaaGreatAvT
import Derived.Test.YtniibgdokfnomaaGreatAvIr
import Derived.WalkKit
import Derived.Lib.Walk
import Derived.Lib.Overlaps
import Derived.Shelf.Spec.SlicesInsertGrow
import Derived.Test.YtniibgdokfnomaaGreatAvCl
import Derived.Test.YtniibgdokfnomaaGreatAvShStepWord
import Derived.Test.YtniibgdokfnomaaGreatAvShelf
namespace Go.Proofs
open Go Go.Av
set_option maxRecDepth 100000
set_option maxHeartbeats 40000000
set_option linter.unusedVariables false
set_option linter.unusedSimpArgs false
namespace Lw
theorem g_slices_Clone_Simpl_Entry_impl_Entry_ok (N : Nat) (v0 : List (Gx.Entry)) {r : (List (Gx.Entry))} (h : g_slices_Clone_Simpl_Entry_impl_Entry N v0 = some r) : Pure Tryz.prog 122 [DV.one (D.sl 4 (List.map Gx.Entry.enc v0))] (DV.one (D.sl 4 (List.map Gx.Entry.enc r))) := by
 unfold g_slices_Clone_Simpl_Entry_impl_Entry chk at h
 split at h
 ·rename_i hh
  cases h
  exact pure_cloneL Tryz.laysClone_f122 rfl rfl (Tryz.tok _ _ rfl) ⟨Tryz.f122, Tryz.func122, by kernel_rfl, by kernel_rfl⟩ rfl _ (flat_map fun _ => rfl) (by simpa using hh) (by decide)
 ·cases h
theorem g_slices_Clone_Simpl_Listed_impl_Listed_ok (N : Nat) (v0 : List (Gx.Listed)) {r : (List (Gx.Listed))} (h : g_slices_Clone_Simpl_Listed_impl_Listed N v0 = some r) : Pure Tryz.prog 117 [DV.one (D.sl 4 (List.map Gx.Listed.enc v0))] (DV.one (D.sl 4 (List.map Gx.Listed.enc r))) := by
 unfold g_slices_Clone_Simpl_Listed_impl_Listed chk at h
 split at h
 ·rename_i hh
  cases h
  exact pure_cloneL Tryz.laysClone_f117 rfl rfl (Tryz.tok _ _ rfl) ⟨Tryz.f117, Tryz.func117, by kernel_rfl, by kernel_rfl⟩ rfl _ (flat_map fun _ => rfl) (by simpa using hh) (by decide)
 ·cases h
theorem g_slices_Clone_Simpl_Meaning_impl_Meaning_ok (N : Nat) (v0 : List (Gx.Meaning)) {r : (List (Gx.Meaning))} (h : g_slices_Clone_Simpl_Meaning_impl_Meaning N v0 = some r) : Pure Tryz.prog 118 [DV.one (D.sl 2 (List.map Gx.Meaning.enc v0))] (DV.one (D.sl 2 (List.map Gx.Meaning.enc r))) := by
 unfold g_slices_Clone_Simpl_Meaning_impl_Meaning chk at h
 split at h
 ·rename_i hh
  cases h
  exact pure_cloneL Tryz.laysClone_f118 rfl rfl (Tryz.tok _ _ rfl) ⟨Tryz.f118, Tryz.func118, by kernel_rfl, by kernel_rfl⟩ rfl _ (flat_map fun _ => rfl) (by simpa using hh) (by decide)
 ·cases h
theorem g_slices_Clone_Simpl_Step_impl_Step_ok (N : Nat) (v0 : List (Gx.Step)) {r : (List (Gx.Step))} (h : g_slices_Clone_Simpl_Step_impl_Step N v0 = some r) : Pure Tryz.prog 191 [DV.one (D.sl 4 (List.map Gx.Step.enc v0))] (DV.one (D.sl 4 (List.map Gx.Step.enc r))) := by
 unfold g_slices_Clone_Simpl_Step_impl_Step chk at h
 split at h
 ·rename_i hh
  cases h
  exact pure_cloneL Tryz.laysClone_f191 rfl rfl (Tryz.tok _ _ rfl) ⟨Tryz.f191, Tryz.func191, by kernel_rfl, by kernel_rfl⟩ rfl _ (flat_map fun _ => rfl) (by simpa using hh) (by decide)
 ·cases h
theorem g_slices_Clone_Simpl_Used_impl_Used_ok (N : Nat) (v0 : List (Gx.Used)) {r : (List (Gx.Used))} (h : g_slices_Clone_Simpl_Used_impl_Used N v0 = some r) : Pure Tryz.prog 95 [DV.one (D.sl 2 (List.map Gx.Used.enc v0))] (DV.one (D.sl 2 (List.map Gx.Used.enc r))) := by
 unfold g_slices_Clone_Simpl_Used_impl_Used chk at h
 split at h
 ·rename_i hh
  cases h
  exact pure_cloneL Tryz.laysClone_f95 rfl rfl (Tryz.tok _ _ rfl) ⟨Tryz.f95, Tryz.func95, by kernel_rfl, by kernel_rfl⟩ rfl _ (flat_map fun _ => rfl) (by simpa using hh) (by decide)
 ·cases h
theorem g_slices_Clone_Sint_int_ok (N : Nat) (v0 : List (Int)) {r : (List (Int))} (h : g_slices_Clone_Sint_int N v0 = some r) : Pure Tryz.prog 190 [DV.one (D.sl 1 (List.map Gx.encI v0))] (DV.one (D.sl 1 (List.map Gx.encI r))) := by
 unfold g_slices_Clone_Sint_int chk at h
 split at h
 ·rename_i hh
  cases h
  exact pure_cloneL Tryz.laysClone_f190 rfl rfl (Tryz.tok _ _ rfl) ⟨Tryz.f190, Tryz.func190, by kernel_rfl, by kernel_rfl⟩ rfl _ (flat_map fun _ => rfl) (by simpa using hh) (by decide)
 ·cases h
theorem ins_end125 (w : World) (n cap vcap vb b : Nat) (rv : Value) (W' : World) (hz : ∀ ty, (Builtin.append_ #[37, 37] ty #[.slice (some ⟨b, 0, none⟩) n cap, .slice (some ⟨vb, 0, none⟩) 1 vcap]).run Tryz.prog w = .ok rv W') :
  Calls Tryz.prog 125 #[.slice (some ⟨b, 0, none⟩) n cap, .int .i64 n, .slice (some ⟨vb, 0, none⟩) 1 vcap] w fun e w' => e = .returned rv ∧ w' = W' := by
 go_enter Tryz.func125, Tryz.ntmps125
 go_wp2_with (at_builtin; refine Lib.wpList_append_run _ rfl _ _ _ _ rfl _ _ rfl rfl _ _ (hz _) ?_)
 all_goals (go_ret; exact ⟨rfl, rfl⟩)
theorem ins_none125 (w : World) (oa : Option Addr) (vcap vb : Nat) (rv : Value) (W' : World) (hz : ∀ ty, (Builtin.append_ #[37, 37] ty #[.slice oa 0 0, .slice (some ⟨vb, 0, none⟩) 1 vcap]).run Tryz.prog w = .ok rv W') :
  Calls Tryz.prog 125 #[.slice oa 0 0, .int .i64 0, .slice (some ⟨vb, 0, none⟩) 1 vcap] w fun e w' => e = .returned rv ∧ w' = W' := by
 go_enter Tryz.func125, Tryz.ntmps125
 cases oa with
 | none =>
  go_wp2_with (at_builtin; refine Lib.wpList_append_run _ rfl _ _ _ _ rfl _ _ rfl rfl _ _ (hz _) ?_)
  all_goals (go_ret; exact ⟨rfl, rfl⟩)
 | some a =>
  obtain ⟨ab, ao, asp⟩ := a
  go_wp2_with (at_builtin; refine Lib.wpList_append_run _ rfl _ _ _ _ rfl _ _ rfl rfl _ _ (hz _) ?_)
  all_goals (go_ret; exact ⟨rfl, rfl⟩)
theorem ins_shift125 (w : World) (n i cap vcap vb b : Nat) (W1 W2 : World) (hi : i < n) (hroom : n + 1 ≤ cap) (hmax : cap ≤ maxLen) (hn : n ≤ 4194304)
  (hov : ∀ lb cb, (callFunc 179 #[.slice (some ⟨vb, 0, none⟩) 1 vcap, .slice (some ⟨b, (i + 1) * 4, none⟩) lb cb]).run Tryz.prog w = .ok (.value (.bool false)) w)
  (h1 : ∀ ty dc sc, (Builtin.copy_ #[37, 37] ty #[.slice (some ⟨b, (i + 1) * 4, none⟩) (n - i) dc, .slice (some ⟨b, i * 4, none⟩) (n + 1 - i) sc]).run Tryz.prog w.drew = .ok (goInt ((n - i : Nat) : Int)) W1)
  (h2 : ∀ ty dc, (Builtin.copy_ #[37, 37] ty #[.slice (some ⟨b, i * 4, none⟩) (n + 1 - i) dc, .slice (some ⟨vb, 0, none⟩) 1 vcap]).run Tryz.prog W1 = .ok (goInt 1) W2) :
  Calls Tryz.prog 125 #[.slice (some ⟨b, 0, none⟩) n cap, .int .i64 i, .slice (some ⟨vb, 0, none⟩) 1 vcap] w fun e w' => e = .returned (.slice (some ⟨b, 0, none⟩) (n + 1) cap) ∧ w' = W2 := by
 have mixed := Tryz.mixed
 have hz1 : ¬ ((1 : Int) = 0) := by omega
 have hz2 : ¬ ((i : Int) = (n : Int)) := by omega
 have hw1 : IntKind.i64.wrap ((i : Int) + 1) = (i : Int) + 1 := by rw [IntKind.wrap_i64]; omega
 have hw2 : IntKind.i64.wrap ((n : Int) + 1) = (n : Int) + 1 := by rw [IntKind.wrap_i64]; omega
 have hc63 : cap ≤ 9223372036854775807 := by unfold maxLen at hmax; omega
 have hb1 : (0 : Int) ≤ (i : Int) + 1 := by omega
 have hin : i ≤ n := by omega
 have htn : ((i : Int) + 1).toNat = i + 1 := by omega
 have hb2 : ¬ (cap = i + 1) := by omega
 have hb3 : (i : Int) ≤ (n : Int) + 1 := by omega
 have hb4 : ¬ (cap = i) := by omega
 go_enter Tryz.func125, Tryz.ntmps125
 go_wp2_with (simp only [hov])
 go_region_law_o (refine Go.Proofs.step_copy_runI rfl _ _ 37 37 rfl _ _ (by simp [Act.eval, Act.put]) (by simp [Act.eval, Act.put]) (h1 _ _ _) ?_)
 go_wp2_with (at_builtin; refine Go.Proofs.wpList_copy_runI _ rfl _ _ 37 37 rfl _ _ rfl rfl (h2 _ _) ?_)
 go_ret
 exact ⟨rfl, rfl⟩
theorem ins_grow125 (w : World) (n i cap vcap vb b G : Nat) (W0 W1 W2 : World) (hi : i < n) (hnc : n ≤ cap) (hroom : cap < n + 1) (hmax : cap ≤ maxLen) (hG : n + 1 ≤ G) (hG2 : G ≤ maxLen) (hn : n ≤ 4194304)
  (h0 : ∀ ty, (Builtin.append_ #[37, 3] ty #[.slice (some ⟨b, 0, none⟩) i cap, .int .i64 ((n : Int) + 1 - (i : Int))]).run Tryz.prog w = .ok (.slice (some ⟨w.heap.size, 0, none⟩) (n + 1) G) W0)
  (h1 : ∀ ty dc, (Builtin.copy_ #[37, 37] ty #[.slice (some ⟨w.heap.size, i * 4, none⟩) (n + 1 - i) dc, .slice (some ⟨vb, 0, none⟩) 1 vcap]).run Tryz.prog W0 = .ok (goInt 1) W1)
  (h2 : ∀ ty dc sc, (Builtin.copy_ #[37, 37] ty #[.slice (some ⟨w.heap.size, (i + 1) * 4, none⟩) (n - i) dc, .slice (some ⟨b, i * 4, none⟩) (n - i) sc]).run Tryz.prog W1.drew = .ok (goInt ((n - i : Nat) : Int)) W2) :
  Calls Tryz.prog 125 #[.slice (some ⟨b, 0, none⟩) n cap, .int .i64 i, .slice (some ⟨vb, 0, none⟩) 1 vcap] w fun e w' => e = .returned (.slice (some ⟨w.heap.size, 0, none⟩) (n + 1) G) ∧ w' = W2 := by
 have mixed := Tryz.mixed
 have hz1 : ¬ ((1 : Int) = 0) := by omega
 have hz2 : ¬ ((i : Int) = (n : Int)) := by omega
 have hz3 : (cap : Int) < (n : Int) + 1 := by omega
 have hw1 : IntKind.i64.wrap ((i : Int) + 1) = (i : Int) + 1 := by rw [IntKind.wrap_i64]; omega
 have hw2 : IntKind.i64.wrap ((n : Int) + 1) = (n : Int) + 1 := by rw [IntKind.wrap_i64]; omega
 have hw3 : IntKind.i64.wrap ((n : Int) + 1 - (i : Int)) = (n : Int) + 1 - (i : Int) := by rw [IntKind.wrap_i64]; omega
 have hG63 : G ≤ 9223372036854775807 := by unfold maxLen at hG2; omega
 have hc63 : cap ≤ 9223372036854775807 := by unfold maxLen at hmax; omega
 have hb1 : (0 : Int) ≤ (i : Int) + 1 := by omega
 have hin : i ≤ n := by omega
 have htn : ((i : Int) + 1).toNat = i + 1 := by omega
 have hGi : ¬ (G = i) := by omega
 have hGim : ¬ (G = i + 1) := by omega
 have hci : ¬ (cap = i) := by omega
 have hb3 : (i : Int) ≤ (n : Int) := by omega
 go_enter Tryz.func125, Tryz.ntmps125
 go_wp2_with (first
  | (at_builtin; refine Lib.wpList_append_run _ rfl _ _ _ _ rfl _ _ rfl rfl _ _ (h0 _) ?_)
  | (at_builtin; refine Go.Proofs.wpList_copy_runI _ rfl _ _ 37 37 rfl _ _ rfl rfl (h1 _ _) ?_))
 go_region_law_o (refine Go.Proofs.step_copy_runI rfl _ _ 37 37 rfl (.slice (some ⟨w.heap.size, (i + 1) * 4, none⟩) (n - i) (G - (i + 1))) (.slice (some ⟨b, i * 4, none⟩) (n - i) (cap - i)) (by simp [Act.eval, Act.put]) (by simp [Act.eval, Act.put]) (h2 3 (G - (i + 1)) (cap - i)) ?_)
 go_wp2
 go_ret
 exact ⟨rfl, rfl⟩
theorem ins_ov125 (w : World) (vb vcap b o lb cb : Nat) (tA tB : TypeId) (kA kB : Nat) (hne : vb ≠ b) (hsa : w.shape? vb = some (tA, kA)) (hsb : w.shape? b = some (tB, kB)) (hkB : kB ≠ 0) (hfa : w.frozen? ⟨vb, 0, none⟩ = false) (hfe : w.frozen? ⟨vb, kA, none⟩ = false) :
  (callFunc 179 #[.slice (some ⟨vb, 0, none⟩) 1 vcap, .slice (some ⟨b, o, none⟩) lb cb]).run Tryz.prog w = .ok (.value (.bool false)) w := by
 rw [run_callFunc_extern Tryz.func179 (by kernel_rfl) (by kernel_rfl) (by kernel_rfl) (e := Extern.SlicesOverlaps.overlaps #[37, 37] #[4]) (by kernel_rfl),
  Lib.run_overlaps_apart w 37 4 60 Tryz.underlying37 4 (fun w => by kernel_rfl) ⟨vb, 0, none⟩ ⟨b, o, none⟩ 1 vcap lb cb hne tA tB kA kB hsa hsb hkB hfa hfe]
 rfl
theorem g_slices_Insert_Simpl_Listed_impl_Listed_ok (N : Nat) (v0 : List (Gx.Listed)) (v1 : Int) (v2 : List (Gx.Listed)) {r : List (Gx.Listed)} (h : g_slices_Insert_Simpl_Listed_impl_Listed N v0 v1 v2 = some r) : Turn Tryz.prog 125 [.sl 0, .d (D.i v1), .sl 1] [.arr 4 (List.map Gx.Listed.enc v0) true, .arr 4 (List.map Gx.Listed.enc v2) true] [none, none, some (.arr 4 (List.map Gx.Listed.enc r) true)] (.sl 2) := by
 unfold g_slices_Insert_Simpl_Listed_impl_Listed chk at h
 split at h
 ·rename_i hh
  obtain ⟨h0, h1, h2, h3⟩ := hh
  cases h
  obtain ⟨x, rfl⟩ := List.length_eq_one_iff.1 h3
  obtain ⟨i, rfl⟩ := Int.eq_ofNat_of_zero_le h0
  have hr := insert_roads (P := Tryz.prog) (F := 125) (t := 37) (e := 60) (k := 4) (OVF := 179) Tryz.underlying37 Tryz.underlying3 (by kernel_rfl) (by decide) ⟨Tryz.f125, Tryz.func125, by kernel_rfl, by kernel_rfl⟩ ins_ov125 ins_end125 ins_none125 ins_shift125 ins_grow125
   (v0.map Gx.Listed.enc) (Gx.Listed.enc x) i (fun d hd => by
    obtain ⟨r, hr, hd⟩ := List.mem_flatten.1 hd
    obtain ⟨y, _, rfl⟩ := List.mem_map.1 hr
    simp only [Gx.Listed.enc, List.mem_cons, List.not_mem_nil, or_false] at hd
    rcases hd with rfl | rfl | rfl | rfl
    all_goals exact ⟨_, rfl⟩) (fun d hd => by
    simp only [Gx.Listed.enc, List.mem_cons, List.not_mem_nil, or_false] at hd
    rcases hd with rfl | rfl | rfl | rfl
    all_goals exact ⟨_, rfl⟩) (by rw [List.length_map]; omega) (by rw [List.length_map]; exact h2)
  rw [Int.toNat_natCast]
  simpa [List.map_append, List.map_take, List.map_drop] using hr
 ·cases h
theorem ins_end129 (w : World) (n cap vcap vb b : Nat) (rv : Value) (W' : World) (hz : ∀ ty, (Builtin.append_ #[38, 38] ty #[.slice (some ⟨b, 0, none⟩) n cap, .slice (some ⟨vb, 0, none⟩) 1 vcap]).run Tryz.prog w = .ok rv W') :
  Calls Tryz.prog 129 #[.slice (some ⟨b, 0, none⟩) n cap, .int .i64 n, .slice (some ⟨vb, 0, none⟩) 1 vcap] w fun e w' => e = .returned rv ∧ w' = W' := by
 go_enter Tryz.func129, Tryz.ntmps129
 go_wp2_with (at_builtin; refine Lib.wpList_append_run _ rfl _ _ _ _ rfl _ _ rfl rfl _ _ (hz _) ?_)
 all_goals (go_ret; exact ⟨rfl, rfl⟩)
theorem ins_none129 (w : World) (oa : Option Addr) (vcap vb : Nat) (rv : Value) (W' : World) (hz : ∀ ty, (Builtin.append_ #[38, 38] ty #[.slice oa 0 0, .slice (some ⟨vb, 0, none⟩) 1 vcap]).run Tryz.prog w = .ok rv W') :
  Calls Tryz.prog 129 #[.slice oa 0 0, .int .i64 0, .slice (some ⟨vb, 0, none⟩) 1 vcap] w fun e w' => e = .returned rv ∧ w' = W' := by
 go_enter Tryz.func129, Tryz.ntmps129
 cases oa with
 | none =>
  go_wp2_with (at_builtin; refine Lib.wpList_append_run _ rfl _ _ _ _ rfl _ _ rfl rfl _ _ (hz _) ?_)
  all_goals (go_ret; exact ⟨rfl, rfl⟩)
 | some a =>
  obtain ⟨ab, ao, asp⟩ := a
  go_wp2_with (at_builtin; refine Lib.wpList_append_run _ rfl _ _ _ _ rfl _ _ rfl rfl _ _ (hz _) ?_)
  all_goals (go_ret; exact ⟨rfl, rfl⟩)
theorem ins_shift129 (w : World) (n i cap vcap vb b : Nat) (W1 W2 : World) (hi : i < n) (hroom : n + 1 ≤ cap) (hmax : cap ≤ maxLen) (hn : n ≤ 4194304)
  (hov : ∀ lb cb, (callFunc 182 #[.slice (some ⟨vb, 0, none⟩) 1 vcap, .slice (some ⟨b, (i + 1) * 2, none⟩) lb cb]).run Tryz.prog w = .ok (.value (.bool false)) w)
  (h1 : ∀ ty dc sc, (Builtin.copy_ #[38, 38] ty #[.slice (some ⟨b, (i + 1) * 2, none⟩) (n - i) dc, .slice (some ⟨b, i * 2, none⟩) (n + 1 - i) sc]).run Tryz.prog w.drew = .ok (goInt ((n - i : Nat) : Int)) W1)
  (h2 : ∀ ty dc, (Builtin.copy_ #[38, 38] ty #[.slice (some ⟨b, i * 2, none⟩) (n + 1 - i) dc, .slice (some ⟨vb, 0, none⟩) 1 vcap]).run Tryz.prog W1 = .ok (goInt 1) W2) :
  Calls Tryz.prog 129 #[.slice (some ⟨b, 0, none⟩) n cap, .int .i64 i, .slice (some ⟨vb, 0, none⟩) 1 vcap] w fun e w' => e = .returned (.slice (some ⟨b, 0, none⟩) (n + 1) cap) ∧ w' = W2 := by
 have mixed := Tryz.mixed
 have hz1 : ¬ ((1 : Int) = 0) := by omega
 have hz2 : ¬ ((i : Int) = (n : Int)) := by omega
 have hw1 : IntKind.i64.wrap ((i : Int) + 1) = (i : Int) + 1 := by rw [IntKind.wrap_i64]; omega
 have hw2 : IntKind.i64.wrap ((n : Int) + 1) = (n : Int) + 1 := by rw [IntKind.wrap_i64]; omega
 have hc63 : cap ≤ 9223372036854775807 := by unfold maxLen at hmax; omega
 have hb1 : (0 : Int) ≤ (i : Int) + 1 := by omega
 have hin : i ≤ n := by omega
 have htn : ((i : Int) + 1).toNat = i + 1 := by omega
 have hb2 : ¬ (cap = i + 1) := by omega
 have hb3 : (i : Int) ≤ (n : Int) + 1 := by omega
 have hb4 : ¬ (cap = i) := by omega
 go_enter Tryz.func129, Tryz.ntmps129
 go_wp2_with (simp only [hov])
 go_region_law_o (refine Go.Proofs.step_copy_runI rfl _ _ 38 38 rfl _ _ (by simp [Act.eval, Act.put]) (by simp [Act.eval, Act.put]) (h1 _ _ _) ?_)
 go_wp2_with (at_builtin; refine Go.Proofs.wpList_copy_runI _ rfl _ _ 38 38 rfl _ _ rfl rfl (h2 _ _) ?_)
 go_ret
 exact ⟨rfl, rfl⟩
theorem ins_grow129 (w : World) (n i cap vcap vb b G : Nat) (W0 W1 W2 : World) (hi : i < n) (hnc : n ≤ cap) (hroom : cap < n + 1) (hmax : cap ≤ maxLen) (hG : n + 1 ≤ G) (hG2 : G ≤ maxLen) (hn : n ≤ 4194304)
  (h0 : ∀ ty, (Builtin.append_ #[38, 3] ty #[.slice (some ⟨b, 0, none⟩) i cap, .int .i64 ((n : Int) + 1 - (i : Int))]).run Tryz.prog w = .ok (.slice (some ⟨w.heap.size, 0, none⟩) (n + 1) G) W0)
  (h1 : ∀ ty dc, (Builtin.copy_ #[38, 38] ty #[.slice (some ⟨w.heap.size, i * 2, none⟩) (n + 1 - i) dc, .slice (some ⟨vb, 0, none⟩) 1 vcap]).run Tryz.prog W0 = .ok (goInt 1) W1)
  (h2 : ∀ ty dc sc, (Builtin.copy_ #[38, 38] ty #[.slice (some ⟨w.heap.size, (i + 1) * 2, none⟩) (n - i) dc, .slice (some ⟨b, i * 2, none⟩) (n - i) sc]).run Tryz.prog W1.drew = .ok (goInt ((n - i : Nat) : Int)) W2) :
  Calls Tryz.prog 129 #[.slice (some ⟨b, 0, none⟩) n cap, .int .i64 i, .slice (some ⟨vb, 0, none⟩) 1 vcap] w fun e w' => e = .returned (.slice (some ⟨w.heap.size, 0, none⟩) (n + 1) G) ∧ w' = W2 := by
 have mixed := Tryz.mixed
 have hz1 : ¬ ((1 : Int) = 0) := by omega
 have hz2 : ¬ ((i : Int) = (n : Int)) := by omega
 have hz3 : (cap : Int) < (n : Int) + 1 := by omega
 have hw1 : IntKind.i64.wrap ((i : Int) + 1) = (i : Int) + 1 := by rw [IntKind.wrap_i64]; omega
 have hw2 : IntKind.i64.wrap ((n : Int) + 1) = (n : Int) + 1 := by rw [IntKind.wrap_i64]; omega
 have hw3 : IntKind.i64.wrap ((n : Int) + 1 - (i : Int)) = (n : Int) + 1 - (i : Int) := by rw [IntKind.wrap_i64]; omega
 have hG63 : G ≤ 9223372036854775807 := by unfold maxLen at hG2; omega
 have hc63 : cap ≤ 9223372036854775807 := by unfold maxLen at hmax; omega
 have hb1 : (0 : Int) ≤ (i : Int) + 1 := by omega
 have hin : i ≤ n := by omega
 have htn : ((i : Int) + 1).toNat = i + 1 := by omega
 have hGi : ¬ (G = i) := by omega
 have hGim : ¬ (G = i + 1) := by omega
 have hci : ¬ (cap = i) := by omega
 have hb3 : (i : Int) ≤ (n : Int) := by omega
 go_enter Tryz.func129, Tryz.ntmps129
 go_wp2_with (first
  | (at_builtin; refine Lib.wpList_append_run _ rfl _ _ _ _ rfl _ _ rfl rfl _ _ (h0 _) ?_)
  | (at_builtin; refine Go.Proofs.wpList_copy_runI _ rfl _ _ 38 38 rfl _ _ rfl rfl (h1 _ _) ?_))
 go_region_law_o (refine Go.Proofs.step_copy_runI rfl _ _ 38 38 rfl (.slice (some ⟨w.heap.size, (i + 1) * 2, none⟩) (n - i) (G - (i + 1))) (.slice (some ⟨b, i * 2, none⟩) (n - i) (cap - i)) (by simp [Act.eval, Act.put]) (by simp [Act.eval, Act.put]) (h2 3 (G - (i + 1)) (cap - i)) ?_)
 go_wp2
 go_ret
 exact ⟨rfl, rfl⟩
theorem ins_ov129 (w : World) (vb vcap b o lb cb : Nat) (tA tB : TypeId) (kA kB : Nat) (hne : vb ≠ b) (hsa : w.shape? vb = some (tA, kA)) (hsb : w.shape? b = some (tB, kB)) (hkB : kB ≠ 0) (hfa : w.frozen? ⟨vb, 0, none⟩ = false) (hfe : w.frozen? ⟨vb, kA, none⟩ = false) :
  (callFunc 182 #[.slice (some ⟨vb, 0, none⟩) 1 vcap, .slice (some ⟨b, o, none⟩) lb cb]).run Tryz.prog w = .ok (.value (.bool false)) w := by
 rw [run_callFunc_extern Tryz.func182 (by kernel_rfl) (by kernel_rfl) (by kernel_rfl) (e := Extern.SlicesOverlaps.overlaps #[38, 38] #[4]) (by kernel_rfl),
  Lib.run_overlaps_apart w 38 4 62 Tryz.underlying38 2 (fun w => by kernel_rfl) ⟨vb, 0, none⟩ ⟨b, o, none⟩ 1 vcap lb cb hne tA tB kA kB hsa hsb hkB hfa hfe]
 rfl
theorem g_slices_Insert_Simpl_Meaning_impl_Meaning_ok (N : Nat) (v0 : List (Gx.Meaning)) (v1 : Int) (v2 : List (Gx.Meaning)) {r : List (Gx.Meaning)} (h : g_slices_Insert_Simpl_Meaning_impl_Meaning N v0 v1 v2 = some r) : Turn Tryz.prog 129 [.sl 0, .d (D.i v1), .sl 1] [.arr 2 (List.map Gx.Meaning.enc v0) true, .arr 2 (List.map Gx.Meaning.enc v2) true] [none, none, some (.arr 2 (List.map Gx.Meaning.enc r) true)] (.sl 2) := by
 unfold g_slices_Insert_Simpl_Meaning_impl_Meaning chk at h
 split at h
 ·rename_i hh
  obtain ⟨h0, h1, h2, h3⟩ := hh
  cases h
  obtain ⟨x, rfl⟩ := List.length_eq_one_iff.1 h3
  obtain ⟨i, rfl⟩ := Int.eq_ofNat_of_zero_le h0
  have hr := insert_roads (P := Tryz.prog) (F := 129) (t := 38) (e := 62) (k := 2) (OVF := 182) Tryz.underlying38 Tryz.underlying3 (by kernel_rfl) (by decide) ⟨Tryz.f129, Tryz.func129, by kernel_rfl, by kernel_rfl⟩ ins_ov129 ins_end129 ins_none129 ins_shift129 ins_grow129
   (v0.map Gx.Meaning.enc) (Gx.Meaning.enc x) i (fun d hd => by
    obtain ⟨r, hr, hd⟩ := List.mem_flatten.1 hd
    obtain ⟨y, _, rfl⟩ := List.mem_map.1 hr
    simp only [Gx.Meaning.enc, List.mem_cons, List.not_mem_nil, or_false] at hd
    rcases hd with rfl | rfl
    all_goals exact ⟨_, rfl⟩) (fun d hd => by
    simp only [Gx.Meaning.enc, List.mem_cons, List.not_mem_nil, or_false] at hd
    rcases hd with rfl | rfl
    all_goals exact ⟨_, rfl⟩) (by rw [List.length_map]; omega) (by rw [List.length_map]; exact h2)
  rw [Int.toNat_natCast]
  simpa [List.map_append, List.map_take, List.map_drop] using hr
 ·cases h
end Lw
end Go.Proofs
