/- The program's WordsNow returns what the reference's returns, for all arguments. -/
import Derived.Test.YtppbkdpofmplaaaRows
import Derived.Test.YtppbkdpofmplaaaAvLwWordsNow
import Derived.WalkKit
import Derived.ProofKit
import Derived.OpenShut
import Derived.ShutString
import Derived.ChangeOld
import Derived.Below
import Derived.SizedLaws
namespace Go.Proofs.Ytppbkdpofmplaaa.fnExactWordsNow
open Go.ChangeShapes Go.WideShapes Go.ChangeAt Go.RowKit
open Go.Av
set_option linter.unusedVariables false
theorem own : ownKnob Try.prog.godebug = none := by kernel_rfl
set_option maxRecDepth 100000 in
theorem pure (dvs : List DV) (h : ArgsWf Try.tab Try.f4.params.toList dvs) : Pure Try.prog 4 dvs (.one (.b true)) := by
  rw [Try.params4] at h
  obtain ⟨d0, _, rfl, h0, rfl⟩ := h
  have h0 : ∃ row, d0 = .agg row ∧ WfR Gx.House.tys row := h0
  obtain ⟨row0, rfl, e0⟩ := h0
  obtain ⟨x0, rfl, o0⟩ := Gx.House.dec e0
  exact Lw.lawWordsNow x0 o0
set_option maxRecDepth 100000 in
theorem lifted (os : Os) (started : os.Started) (H : Type) (enc : TypeId × Value → H) :
    ReturnsInHanded {} Try.checked os 4 .any (Rows.fnExactWordsNowSpec.pre6 enc Try.prog Try.f4 Rows.fnExactWordsNowRow.domain false) (Rows.fnExactWordsNowSpec.post enc Try.prog Try.f4 false true false false) := by
  refine returnsInHanded_shaped (C := Try.checked) own started (by kernel_rfl) Try.func4
    (ChangeSpec.witness6 (enc := enc) (C := Try.checked) false ⟨#[], #[(.agg #[.slice none 0 0, .slice none 0 0, .int .i64 0, .int .i64 0, .string ⟨#[]⟩, .string ⟨#[]⟩, .slice none 0 0, .int .i64 0, .slice none 0 0, .slice none 0 0, .slice none 0 0, .slice none 0 0, .int .i64 0])], []⟩ 8 (by kernel_rfl) (by kernel_rfl) (by kernel_rfl) (by kernel_rfl)) ?_
  intro W base args ds gs before hval hW hsh
  refine law_contract (P := Try.prog) Try.tok (by kernel_rfl) (by kernel_rfl) (by kernel_rfl) (by kernel_rfl) (rt := 4) (by kernel_rfl) Try.underlying4 rfl (fun ds hl => ?_) pure W base args ds gs before hval hW hsh
  rw [Try.params4] at hl
  match ds, hl with
  | [a0], _ => rfl
theorem over : Rows.fnExactWordsNowRow.holds Try.pinned (OpenSpec.ofChange Rows.fnExactWordsNowSpec) :=
  OpenClaim.holds_of_wide 4 Try.f4 rfl rfl rfl rfl rfl rfl rfl ⟨rfl, rfl, rfl, rfl, rfl⟩ rfl rfl rfl rfl rfl (by kernel_rfl) Try.func4 (by kernel_rfl)
    (of_decide_eq_true (by kernel_rfl)) (by unfold Func.isWrapper; first | (rw [if_pos (by decide +kernel)]; kernel_rfl) | (rw [if_neg (by decide +kernel)]; exact ⟨rfl, rfl⟩))
    (fun os started H enc _ => lifted os started H enc)
theorem proved : Rows.FnExactWordsNowSaid := over
#print axioms proved
end Go.Proofs.Ytppbkdpofmplaaa.fnExactWordsNow
namespace Go.Proofs.Ytppbkdpofmplaaa
/-- The row, under a short name, for the claim. -/
theorem fnExactWordsNow_holds : Rows.FnExactWordsNowSaid := fnExactWordsNow.proved
end Go.Proofs.Ytppbkdpofmplaaa
