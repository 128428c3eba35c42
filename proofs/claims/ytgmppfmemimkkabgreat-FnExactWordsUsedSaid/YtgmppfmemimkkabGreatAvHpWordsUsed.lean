/- the contracts of the library functions -/
import Derived.Test.YtgmppfmemimkkabGreatAvT
import Derived.Test.YtgmppfmemimkkabGreatAvSo
import Derived.WalkKit
import Derived.Deep.Draws
import Derived.Lib.Walk
import Derived.Shelf.SlSortCmp.NoneTotal
import Derived.Test.YtgmppfmemimkkabGreatAvShWordsUsed
import Derived.Test.YtgmppfmemimkkabGreatAvShelf
namespace Go.Proofs
open Go Go.Av
set_option maxRecDepth 100000
set_option maxHeartbeats 40000000
set_option linter.unusedVariables false
set_option linter.unusedSimpArgs false
namespace Lw
theorem before_calls (x y : List UInt8) (W : World) : Calls Tryz.prog 35 #[.string ⟨⟨x⟩⟩, .string ⟨⟨y⟩⟩] W fun e w' => e = .returned (.bool (ltW x y)) ∧ ∃ q, w' = W.drewN q := by
 go_enter Tryz.func35, Tryz.ntmps35
 go_wp2
 ·rename_i h
  have e : ltW x y = decide (x.length < y.length) := by unfold ltW; rw [if_neg (by simp at h; omega)]
  rw [e]
  go_ret
  exact ⟨rfl, 0, rfl⟩
 ·rename_i h
  have e : ltW x y = Op.bytesLess x y := by unfold ltW; rw [if_pos (by simp at h; omega)]
  rw [e]
  go_ret
  exact ⟨rfl, 0, rfl⟩
theorem cmp_calls (x y : List UInt8) (W : World) : Calls Tryz.prog 34 #[.string ⟨⟨x⟩⟩, .string ⟨⟨y⟩⟩] W fun e w' => e = .returned (.int .i64 (cmpW x y)) ∧ ∃ q, w' = W.drewN q := by
 have hcon := before_calls x y W
 unfold cmpW
 generalize ltW x y = b at hcon ⊢
 go_enter Tryz.func34, Tryz.ntmps34
 go_wp2_with (go_at_call 35; refine hcon.mono ?_; rintro e w' ⟨rfl, q, rfl⟩)
 all_goals (go_ret; exact ⟨rfl, q, rfl⟩)
theorem cmpW_ltOf : Go.Proofs.ltOf cmpW = ltW := by
 funext x y
 exact cmpW_lt x y
theorem ltW_swo : Sort.SWO (Go.Proofs.ltOf cmpW) := by
 rw [cmpW_ltOf]
 refine ⟨ltW_irrefl, fun x y z => ltW_trans, fun x y z h1 h2 => ?_⟩
 cases h : ltW x z with
 | false => rfl
 | true =>
  cases h3 : ltW y x with
  | true => rw [ltW_trans h3 h] at h2; cases h2
  | false =>
   have := ltW_total h1 h3
   subst this
   rw [h] at h2; cases h2
theorem g_slices_SortFunc_Sstring_string_ok (N : Nat) (v0 : List (List UInt8)) {r : List (List UInt8)} (h : g_slices_SortFunc_Sstring_string N v0 = some r) : Turn Tryz.prog 33 [.sl 0, .fn 34 []] [.arr 1 (List.map Gx.encS v0) true] [some (.arr 1 (List.map Gx.encS r) true)] (.tup []) := by
 unfold g_slices_SortFunc_Sstring_string chk at h
 split at h
 ·rename_i hh
  cases h
  refine turn_sort ⟨Tryz.f33, Tryz.func33, by kernel_rfl, by kernel_rfl⟩ sortW sortW_length (fun oa fv w => Go.Proofs.AnyF.slices_SortFunc_none Tryz.sortN oa 0 fv w) (fun b cap d w hH hb hs => ?_) v0 (by omega)
  refine (Go.Proofs.Any.slices_SortFunc_total Tryz.sortL encB (fun _ => rfl) cmpW ltW_swo 34 #[] b 0 cap d w (Go.Proofs.enters_of Tryz.func34 (by kernel_rfl) rfl) (fun m os dk hs x y => (cmp_calls x y _).mono fun e w' he => ⟨he.1, he.2.choose, #[], by rw [Sort.grow_empty]; exact he.2.choose_spec⟩) hH hb hs
   (fun x y h1 h2 => by rw [cmpW_ltOf] at h1 h2; exact ltW_total h1 h2)).mono fun e w' he => ⟨he.1, ?_⟩
  obtain ⟨_, n, os, rfl⟩ := he
  have es : (d.toList.mergeSort fun x y => !(Go.Proofs.ltOf cmpW) y x) = sortW d.toList := by rw [cmpW_ltOf]; rfl
  rw [es]
  exact sortedW_of hb
 ·cases h
end Lw
end Go.Proofs
