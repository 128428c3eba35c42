/- the contracts of the library functions -/
import Derived.Test.YtniibgdokfnomaaGreatDoorAvT
import Derived.Test.YtniibgdokfnomaaGreatDoorAvRa
import Derived.Test.YtniibgdokfnomaaGreatDoorAvCl
import Derived.Test.YtniibgdokfnomaaGreatDoorAvShStepDesk
import Derived.Test.YtniibgdokfnomaaGreatDoorAvShelf
namespace Go.Proofs
open Go Go.Av
set_option maxRecDepth 100000
set_option maxHeartbeats 40000000
set_option linter.unusedVariables false
set_option linter.unusedSimpArgs false
namespace Lw
theorem g_slices_Clone_Simpl_Entry_impl_Entry_ok (N : Nat) (v0 : List (Gx.Entry)) {r : (List (Gx.Entry))} (h : g_slices_Clone_Simpl_Entry_impl_Entry N v0 = some r) : Pure Tryz.prog 101 [DV.one (D.sl 4 (List.map Gx.Entry.enc v0))] (DV.one (D.sl 4 (List.map Gx.Entry.enc r))) := by
 unfold g_slices_Clone_Simpl_Entry_impl_Entry chk at h
 split at h
 ·rename_i hh
  cases h
  exact pure_cloneL Tryz.laysClone_f101 rfl rfl (Tryz.tok _ _ rfl) ⟨Tryz.f101, Tryz.func101, by kernel_rfl, by kernel_rfl⟩ rfl _ (flat_map fun _ => rfl) (by simpa using hh) (by decide)
 ·cases h
theorem g_slices_Clone_Simpl_Listed_impl_Listed_ok (N : Nat) (v0 : List (Gx.Listed)) {r : (List (Gx.Listed))} (h : g_slices_Clone_Simpl_Listed_impl_Listed N v0 = some r) : Pure Tryz.prog 95 [DV.one (D.sl 4 (List.map Gx.Listed.enc v0))] (DV.one (D.sl 4 (List.map Gx.Listed.enc r))) := by
 unfold g_slices_Clone_Simpl_Listed_impl_Listed chk at h
 split at h
 ·rename_i hh
  cases h
  exact pure_cloneL Tryz.laysClone_f95 rfl rfl (Tryz.tok _ _ rfl) ⟨Tryz.f95, Tryz.func95, by kernel_rfl, by kernel_rfl⟩ rfl _ (flat_map fun _ => rfl) (by simpa using hh) (by decide)
 ·cases h
theorem g_slices_Clone_Simpl_Meaning_impl_Meaning_ok (N : Nat) (v0 : List (Gx.Meaning)) {r : (List (Gx.Meaning))} (h : g_slices_Clone_Simpl_Meaning_impl_Meaning N v0 = some r) : Pure Tryz.prog 96 [DV.one (D.sl 2 (List.map Gx.Meaning.enc v0))] (DV.one (D.sl 2 (List.map Gx.Meaning.enc r))) := by
 unfold g_slices_Clone_Simpl_Meaning_impl_Meaning chk at h
 split at h
 ·rename_i hh
  cases h
  exact pure_cloneL Tryz.laysClone_f96 rfl rfl (Tryz.tok _ _ rfl) ⟨Tryz.f96, Tryz.func96, by kernel_rfl, by kernel_rfl⟩ rfl _ (flat_map fun _ => rfl) (by simpa using hh) (by decide)
 ·cases h
theorem g_slices_Clone_Simpl_Step_impl_Step_ok (N : Nat) (v0 : List (Gx.Step)) {r : (List (Gx.Step))} (h : g_slices_Clone_Simpl_Step_impl_Step N v0 = some r) : Pure Tryz.prog 174 [DV.one (D.sl 4 (List.map Gx.Step.enc v0))] (DV.one (D.sl 4 (List.map Gx.Step.enc r))) := by
 unfold g_slices_Clone_Simpl_Step_impl_Step chk at h
 split at h
 ·rename_i hh
  cases h
  exact pure_cloneL Tryz.laysClone_f174 rfl rfl (Tryz.tok _ _ rfl) ⟨Tryz.f174, Tryz.func174, by kernel_rfl, by kernel_rfl⟩ rfl _ (flat_map fun _ => rfl) (by simpa using hh) (by decide)
 ·cases h
theorem g_slices_Clone_Simpl_Used_impl_Used_ok (N : Nat) (v0 : List (Gx.Used)) {r : (List (Gx.Used))} (h : g_slices_Clone_Simpl_Used_impl_Used N v0 = some r) : Pure Tryz.prog 99 [DV.one (D.sl 2 (List.map Gx.Used.enc v0))] (DV.one (D.sl 2 (List.map Gx.Used.enc r))) := by
 unfold g_slices_Clone_Simpl_Used_impl_Used chk at h
 split at h
 ·rename_i hh
  cases h
  exact pure_cloneL Tryz.laysClone_f99 rfl rfl (Tryz.tok _ _ rfl) ⟨Tryz.f99, Tryz.func99, by kernel_rfl, by kernel_rfl⟩ rfl _ (flat_map fun _ => rfl) (by simpa using hh) (by decide)
 ·cases h
theorem g_slices_Clone_Sint_int_ok (N : Nat) (v0 : List (Int)) {r : (List (Int))} (h : g_slices_Clone_Sint_int N v0 = some r) : Pure Tryz.prog 173 [DV.one (D.sl 1 (List.map Gx.encI v0))] (DV.one (D.sl 1 (List.map Gx.encI r))) := by
 unfold g_slices_Clone_Sint_int chk at h
 split at h
 ·rename_i hh
  cases h
  exact pure_cloneL Tryz.laysClone_f173 rfl rfl (Tryz.tok _ _ rfl) ⟨Tryz.f173, Tryz.func173, by kernel_rfl, by kernel_rfl⟩ rfl _ (flat_map fun _ => rfl) (by simpa using hh) (by decide)
 ·cases h
theorem g_strings_ReplaceAll_ok (N : Nat) (v0 : List UInt8) (v1 : List UInt8) (v2 : List UInt8) {r : (List UInt8)} (h : g_strings_ReplaceAll N v0 v1 v2 = some r) : Pure Tryz.prog 80 [DV.one (D.s v0), DV.one (D.s v1), DV.one (D.s v2)] (DV.one (D.s r)) := by
 unfold g_strings_ReplaceAll chk at h
 split at h
 ·rename_i hh
  cases h
  exact pure_replace (g := 0) ⟨Tryz.f80, Tryz.func80, by kernel_rfl, by kernel_rfl⟩ (by kernel_rfl) (fun w h => Go.Proofs.cell_of_shapedOpen_int (zero := #[.int .i64 0]) (t := 3) h (of_decide_eq_true (by kernel_rfl)) (by kernel_rfl) rfl (by kernel_rfl) (by kernel_rfl) Tryz.underlying3) Tryz.strings_ReplaceAll v0 v1 v2 hh.1 hh.2.1 hh.2.2
 ·cases h
end Lw
end Go.Proofs
