/- The program's StepWord returns what the reference's returns, for all arguments. -/
import Derived.Test.YtniibgdokfnomaaGreatRows
import Derived.Test.YtniibgdokfnomaaGreatAvLwStepWord
import Derived.WalkKit
import Derived.ProofKit
import Derived.OpenShut
import Derived.ShutString
import Derived.ChangeOld
import Derived.Below
import Derived.SizedLaws
namespace Go.Proofs.YtniibgdokfnomaaGreat.fnExactStepWord
open Go.ChangeShapes Go.WideShapes Go.ChangeAt Go.RowKit
open Go.Av
set_option linter.unusedVariables false
theorem own : ownKnob Tryz.prog.godebug = none := by kernel_rfl
set_option maxRecDepth 100000 in
theorem pure (dvs : List DV) (h : ArgsWf Tryz.tab Tryz.f4.params.toList dvs) : Pure Tryz.prog 4 dvs (.one (.b true)) := by
  rw [Tryz.params4] at h
  obtain ⟨d0, _, rfl, h0, ⟨d1, _, rfl, h1, ⟨d2, _, rfl, h2, rfl⟩⟩⟩ := h
  have h0 : ∃ row, d0 = .agg row ∧ WfR Gx.House.tys row := h0
  obtain ⟨row0, rfl, e0⟩ := h0
  obtain ⟨x0, rfl, o0⟩ := Gx.House.dec e0
  have h1 : ∃ row, d1 = .agg row ∧ WfR Gx.Listed.tys row := h1
  obtain ⟨row1, rfl, e1⟩ := h1
  obtain ⟨x1, rfl, o1⟩ := Gx.Listed.dec e1
  have h2 : ∃ row, d2 = .agg row ∧ WfR Gx.Meaning.tys row := h2
  obtain ⟨row2, rfl, e2⟩ := h2
  obtain ⟨x2, rfl, o2⟩ := Gx.Meaning.dec e2
  exact Lw.lawStepWord x0 o0 x1 o1 x2 o2
set_option maxRecDepth 100000 in
theorem lifted (os : Os) (started : os.Started) (H : Type) (enc : TypeId × Value → H) :
    ReturnsInHanded {} Tryz.checked os 4 .any (Rows.fnExactStepWordSpec.pre6 enc Tryz.prog Tryz.f4 Rows.fnExactStepWordRow.domain false) (Rows.fnExactStepWordSpec.post enc Tryz.prog Tryz.f4 false true false false) := by
  refine returnsInHanded_shaped (C := Tryz.checked) own started (by kernel_rfl) Tryz.func4
    (ChangeSpec.witness6 (enc := enc) (C := Tryz.checked) false ⟨#[], #[(.agg #[.slice none 0 0, .slice none 0 0, .int .i64 0, .int .i64 0, .string ⟨#[]⟩, .string ⟨#[]⟩, .slice none 0 0, .int .i64 0, .slice none 0 0, .slice none 0 0, .slice none 0 0, .slice none 0 0, .int .i64 0]), (.agg #[.string ⟨#[]⟩, .int .i64 0, .int .i64 0, .int .i64 0]), (.agg #[.string ⟨#[]⟩, .int .i64 0])], []⟩ 8 (by kernel_rfl) (by kernel_rfl) (by kernel_rfl) (by kernel_rfl)) ?_
  intro W base args ds gs before hval hW hsh
  refine law_contract (P := Tryz.prog) Tryz.tok (by kernel_rfl) (by kernel_rfl) (by kernel_rfl) (by kernel_rfl) (rt := 4) (by kernel_rfl) Tryz.underlying4 rfl (fun ds hl => ?_) pure W base args ds gs before hval hW hsh (wld_none (by kernel_rfl) W)
  rw [Tryz.params4] at hl
  match ds, hl with
  | [a0, a1, a2], _ => rfl
theorem over : Rows.fnExactStepWordRow.holds Tryz.pinned (OpenSpec.ofChange Rows.fnExactStepWordSpec) :=
  OpenClaim.holds_of_wide 4 Tryz.f4 rfl rfl rfl rfl rfl rfl rfl ⟨rfl, rfl, rfl, rfl, rfl⟩ rfl rfl rfl rfl rfl (by kernel_rfl) Tryz.func4 (by kernel_rfl)
    (of_decide_eq_true (by kernel_rfl)) (by unfold Func.isWrapper; first | (rw [if_pos (by decide +kernel)]; kernel_rfl) | (rw [if_neg (by decide +kernel)]; exact ⟨rfl, rfl⟩))
    (fun os started H enc _ => lifted os started H enc)
theorem proved : Rows.FnExactStepWordSaid := over
#print axioms proved
end Go.Proofs.YtniibgdokfnomaaGreat.fnExactStepWord
namespace Go.Proofs.YtniibgdokfnomaaGreat
/-- The row, under a short name, for the claim. -/
theorem fnExactStepWord_holds : Rows.FnExactStepWordSaid := fnExactStepWord.proved
end Go.Proofs.YtniibgdokfnomaaGreat
