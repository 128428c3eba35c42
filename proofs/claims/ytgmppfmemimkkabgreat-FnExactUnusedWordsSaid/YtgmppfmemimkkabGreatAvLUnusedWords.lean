/- The program's UnusedWords returns what the reference's returns, for all arguments. -/
import Derived.Test.YtgmppfmemimkkabGreatRows
import Derived.Test.YtgmppfmemimkkabGreatAvLwUnusedWords
import Derived.WalkKit
import Derived.ProofKit
import Derived.OpenShut
import Derived.ShutString
import Derived.ChangeOld
import Derived.Below
import Derived.SizedLaws
namespace Go.Proofs.YtgmppfmemimkkabGreat.fnExactUnusedWords
open Go.ChangeShapes Go.WideShapes Go.ChangeAt Go.RowKit
open Go.Av
set_option linter.unusedVariables false
theorem own : ownKnob Tryz.prog.godebug = none := by kernel_rfl
set_option maxRecDepth 100000 in
theorem pure (dvs : List DV) (h : ArgsWf Tryz.tab Tryz.f4.params.toList dvs) : Pure Tryz.prog 4 dvs (.one (.b true)) := by
  rw [Tryz.params4] at h
  obtain ⟨d0, _, rfl, h0, rfl⟩ := h
  have h0 : ∃ row, d0 = .agg row ∧ WfR Gx.House.tys row := h0
  obtain ⟨row0, rfl, e0⟩ := h0
  obtain ⟨x0, rfl, o0⟩ := Gx.House.dec e0
  exact Lw.lawUnusedWords x0 o0
set_option maxRecDepth 100000 in
theorem lifted (os : Os) (started : os.Started) (H : Type) (enc : TypeId × Value → H) :
    ReturnsInHanded {} Tryz.checked os 4 .any (Rows.fnExactUnusedWordsSpec.pre6 enc Tryz.prog Tryz.f4 Rows.fnExactUnusedWordsRow.domain false) (Rows.fnExactUnusedWordsSpec.post enc Tryz.prog Tryz.f4 false true false false) := by
  refine returnsInHanded_shaped (C := Tryz.checked) own started (by kernel_rfl) Tryz.func4
    (ChangeSpec.witness6 (enc := enc) (C := Tryz.checked) false ⟨#[], #[(.agg #[.slice none 0 0, .slice none 0 0, .int .i64 0, .int .i64 0, .string ⟨#[]⟩, .string ⟨#[]⟩, .slice none 0 0, .int .i64 0, .slice none 0 0, .slice none 0 0, .slice none 0 0, .slice none 0 0, .int .i64 0])], []⟩ 8 (by kernel_rfl) (by kernel_rfl) (by kernel_rfl) (by kernel_rfl)) ?_
  intro W base args ds gs before hval hW hsh
  refine law_contract (P := Tryz.prog) Tryz.tok (by kernel_rfl) (by kernel_rfl) (by kernel_rfl) (by kernel_rfl) (rt := 4) (by kernel_rfl) Tryz.underlying4 rfl (fun ds hl => ?_) pure W base args ds gs before hval hW hsh (wld_none (by kernel_rfl) W)
  rw [Tryz.params4] at hl
  match ds, hl with
  | [a0], _ => rfl
theorem over : Rows.fnExactUnusedWordsRow.holds Tryz.pinned (OpenSpec.ofChange Rows.fnExactUnusedWordsSpec) :=
  OpenClaim.holds_of_wide 4 Tryz.f4 rfl rfl rfl rfl rfl rfl rfl ⟨rfl, rfl, rfl, rfl, rfl⟩ rfl rfl rfl rfl rfl (by kernel_rfl) Tryz.func4 (by kernel_rfl)
    (of_decide_eq_true (by kernel_rfl)) (by unfold Func.isWrapper; first | (rw [if_pos (by decide +kernel)]; kernel_rfl) | (rw [if_neg (by decide +kernel)]; exact ⟨rfl, rfl⟩))
    (fun os started H enc _ => lifted os started H enc)
theorem proved : Rows.FnExactUnusedWordsSaid := over
#print axioms proved
end Go.Proofs.YtgmppfmemimkkabGreat.fnExactUnusedWords
namespace Go.Proofs.YtgmppfmemimkkabGreat
/-- The row, under a short name, for the claim. -/
theorem fnExactUnusedWords_holds : Rows.FnExactUnusedWordsSaid := fnExactUnusedWords.proved
end Go.Proofs.YtgmppfmemimkkabGreat
