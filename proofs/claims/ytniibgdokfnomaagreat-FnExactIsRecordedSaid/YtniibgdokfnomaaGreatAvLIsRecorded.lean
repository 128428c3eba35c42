/- The program's IsRecorded returns what the reference's returns, for all arguments. -/
import Derived.Test.YtniibgdokfnomaaGreatRows
import Derived.Test.YtniibgdokfnomaaGreatAvLwIsRecorded
import Derived.WalkKit
import Derived.ProofKit
import Derived.OpenShut
import Derived.ShutString
import Derived.ChangeOld
import Derived.Below
import Derived.SizedLaws
namespace Go.Proofs.YtniibgdokfnomaaGreat.fnExactIsRecorded
open Go.ChangeShapes Go.WideShapes Go.ChangeAt Go.RowKit
open Go.Av
set_option linter.unusedVariables false
theorem own : ownKnob Tryz.prog.godebug = none := by kernel_rfl
set_option maxRecDepth 100000 in
theorem pure (dvs : List DV) (h : ArgsWf Tryz.tab Tryz.f3.params.toList dvs) : Pure Tryz.prog 3 dvs (.one (.b true)) := by
  rw [Tryz.params3] at h
  obtain ⟨d0, _, rfl, h0, rfl⟩ := h
  have h0 : ∃ row, d0 = .agg row ∧ WfR Gx.House.tys row := h0
  obtain ⟨row0, rfl, e0⟩ := h0
  obtain ⟨x0, rfl, o0⟩ := Gx.House.dec e0
  exact Lw.lawIsRecorded x0 o0
set_option maxRecDepth 100000 in
theorem lifted (os : Os) (started : os.Started) (H : Type) (enc : TypeId × Value → H) :
    ReturnsInHanded {} Tryz.checked os 3 .any (Rows.fnExactIsRecordedSpec.pre6 enc Tryz.prog Tryz.f3 Rows.fnExactIsRecordedRow.domain false) (Rows.fnExactIsRecordedSpec.post enc Tryz.prog Tryz.f3 false true false false) := by
  refine returnsInHanded_shaped (C := Tryz.checked) own started (by kernel_rfl) Tryz.func3
    (ChangeSpec.witness6 (enc := enc) (C := Tryz.checked) false ⟨#[], #[(.agg #[.slice none 0 0, .slice none 0 0, .int .i64 0, .int .i64 0, .string ⟨#[]⟩, .string ⟨#[]⟩, .slice none 0 0, .int .i64 0, .slice none 0 0, .slice none 0 0, .slice none 0 0, .slice none 0 0, .int .i64 0])], []⟩ 8 (by kernel_rfl) (by kernel_rfl) (by kernel_rfl) (by kernel_rfl)) ?_
  intro W base args ds gs before hval hW hsh
  refine law_contract (P := Tryz.prog) Tryz.tok (by kernel_rfl) (by kernel_rfl) (by kernel_rfl) (by kernel_rfl) (rt := 4) (by kernel_rfl) Tryz.underlying4 rfl (fun ds hl => ?_) pure W base args ds gs before hval hW hsh (wld_none (by kernel_rfl) W)
  rw [Tryz.params3] at hl
  match ds, hl with
  | [a0], _ => rfl
theorem over : Rows.fnExactIsRecordedRow.holds Tryz.pinned (OpenSpec.ofChange Rows.fnExactIsRecordedSpec) :=
  OpenClaim.holds_of_wide 3 Tryz.f3 rfl rfl rfl rfl rfl rfl rfl ⟨rfl, rfl, rfl, rfl, rfl⟩ rfl rfl rfl rfl rfl (by kernel_rfl) Tryz.func3 (by kernel_rfl)
    (of_decide_eq_true (by kernel_rfl)) (by unfold Func.isWrapper; first | (rw [if_pos (by decide +kernel)]; kernel_rfl) | (rw [if_neg (by decide +kernel)]; exact ⟨rfl, rfl⟩))
    (fun os started H enc _ => lifted os started H enc)
theorem proved : Rows.FnExactIsRecordedSaid := over
#print axioms proved
end Go.Proofs.YtniibgdokfnomaaGreat.fnExactIsRecorded
namespace Go.Proofs.YtniibgdokfnomaaGreat
/-- The row, under a short name, for the claim. -/
theorem fnExactIsRecorded_holds : Rows.FnExactIsRecordedSaid := fnExactIsRecorded.proved
end Go.Proofs.YtniibgdokfnomaaGreat
