/- The program's HardestIssue returns what the reference's returns, for all arguments. -/
import Derived.Test.YtefbbjneleifjaaGreatRows
import Derived.Test.YtefbbjneleifjaaGreatAvLwHardestIssue
import Derived.WalkKit
import Derived.ProofKit
import Derived.OpenShut
import Derived.ShutString
import Derived.ChangeOld
import Derived.Below
import Derived.SizedLaws
namespace Go.Proofs.YtefbbjneleifjaaGreat.fnExactHardestIssue
open Go.ChangeShapes Go.WideShapes Go.ChangeAt Go.RowKit
open Go.Av
set_option linter.unusedVariables false
theorem own : ownKnob Tryz.prog.godebug = none := by kernel_rfl
set_option maxRecDepth 100000 in
theorem pure (dvs : List DV) (h : ArgsWf Tryz.tab Tryz.f5.params.toList dvs) : Pure Tryz.prog 5 dvs (.one (.b true)) := by
  rw [Tryz.params5] at h
  obtain ⟨d0, _, rfl, h0, rfl⟩ := h
  have h0 : ∃ row, d0 = .agg row ∧ WfR Gx.House.tys row := h0
  obtain ⟨row0, rfl, e0⟩ := h0
  obtain ⟨x0, rfl, o0⟩ := Gx.House.dec e0
  exact Lw.lawHardestIssue x0 o0
set_option maxRecDepth 100000 in
theorem lifted (os : Os) (started : os.Started) (H : Type) (enc : TypeId × Value → H) :
    ReturnsInHanded {} Tryz.checked os 5 .any (Rows.fnExactHardestIssueSpec.pre6 enc Tryz.prog Tryz.f5 Rows.fnExactHardestIssueRow.domain false) (Rows.fnExactHardestIssueSpec.post enc Tryz.prog Tryz.f5 false true false false) := by
  refine returnsInHanded_of_change_sized (C := Tryz.checked) own started (by kernel_rfl) Tryz.func5
    (ChangeSpec.witness6 (enc := enc) (C := Tryz.checked) false ⟨#[], #[(.agg #[.slice none 0 0, .slice none 0 0, .int .i64 0, .int .i64 0, .string ⟨#[]⟩, .string ⟨#[]⟩, .slice none 0 0, .int .i64 0, .slice none 0 0, .slice none 0 0, .slice none 0 0, .slice none 0 0, .int .i64 0])], []⟩ 8 (by kernel_rfl) (by kernel_rfl) (by kernel_rfl) (by kernel_rfl)) ?_
  intro W base args ds gs before hval hW _ _ _
  refine law_contract (P := Tryz.prog) Tryz.tok (by kernel_rfl) (by kernel_rfl) (by kernel_rfl) (by kernel_rfl) (rt := 4) (by kernel_rfl) Tryz.underlying4 rfl (fun ds hl => ?_) pure W base args ds gs before hval hW
  rw [Tryz.params5] at hl
  match ds, hl with
  | [a0], _ => rfl
theorem over : Rows.fnExactHardestIssueRow.holds Tryz.pinned (OpenSpec.ofChange Rows.fnExactHardestIssueSpec) :=
  OpenClaim.holds_of_wide 5 Tryz.f5 rfl rfl rfl rfl rfl rfl rfl ⟨rfl, rfl, rfl, rfl, rfl⟩ rfl rfl rfl rfl rfl (by kernel_rfl) Tryz.func5 (by kernel_rfl)
    (of_decide_eq_true (by kernel_rfl)) (by unfold Func.isWrapper; first | (rw [if_pos (by decide +kernel)]; kernel_rfl) | (rw [if_neg (by decide +kernel)]; exact ⟨rfl, rfl⟩))
    (fun os started H enc _ => lifted os started H enc)
theorem proved : Rows.FnExactHardestIssueSaid := over
#print axioms proved
end Go.Proofs.YtefbbjneleifjaaGreat.fnExactHardestIssue
namespace Go.Proofs.YtefbbjneleifjaaGreat
/-- The row, under a short name, for the claim. -/
theorem fnExactHardestIssue_holds : Rows.FnExactHardestIssueSaid := fnExactHardestIssue.proved
end Go.Proofs.YtefbbjneleifjaaGreat
