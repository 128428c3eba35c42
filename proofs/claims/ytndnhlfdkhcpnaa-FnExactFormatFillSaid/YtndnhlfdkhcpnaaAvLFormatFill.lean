/- FormatFill: the program and the reference write the same text, for every grid and fill that the law admits; no further conditions. -/
import Derived.Test.YtndnhlfdkhcpnaaRows
import Derived.Test.YtndnhlfdkhcpnaaAvLwFormatFill
import Derived.WalkKit
import Derived.ProofKit
import Derived.OpenShut
import Derived.ShutString
import Derived.ChangeOld
import Derived.Below
import Derived.SizedLaws
namespace Go.Proofs.Ytndnhlfdkhcpnaa.fnExactFormatFill
open Go.ChangeShapes Go.WideShapes Go.ChangeAt Go.RowKit
open Go.Av
set_option linter.unusedVariables false
theorem own : ownKnob Try.prog.godebug = none := by kernel_rfl
set_option maxRecDepth 100000 in
theorem pure (dvs : List DV) (h : ArgsWf Try.tab Try.f3.params.toList dvs) : Pure Try.prog 3 dvs (.one (.b true)) := by
  rw [Try.params3] at h
  obtain ⟨d0, _, rfl, h0, ⟨d1, _, rfl, h1, rfl⟩⟩ := h
  have h0 : ∃ row, d0 = .agg row ∧ WfR Gx.Grid.tys row := h0
  obtain ⟨row0, rfl, e0⟩ := h0
  obtain ⟨x0, rfl, o0⟩ := Gx.Grid.dec e0
  have h1 : ∃ d, d1 = .one d ∧ WfR [.str] [d] := h1
  obtain ⟨c1, rfl, e1⟩ := h1
  obtain ⟨x1, q1, o1⟩ := Gx.dec_S e1
  simp only [List.cons.injEq, and_true] at q1
  subst q1
  exact Lw.lawFormatFill x0 o0 x1 o1
set_option maxRecDepth 100000 in
theorem lifted (os : Os) (started : os.Started) (H : Type) (enc : TypeId × Value → H) :
    ReturnsInHanded {} Try.checked os 3 .any (Rows.fnExactFormatFillSpec.pre6 enc Try.prog Try.f3 Rows.fnExactFormatFillRow.domain false) (Rows.fnExactFormatFillSpec.post enc Try.prog Try.f3 false true false false) := by
  refine returnsInHanded_of_change_sized (C := Try.checked) own started (by kernel_rfl) Try.func3
    (ChangeSpec.witness6 (enc := enc) (C := Try.checked) false ⟨#[], #[(.agg #[.int .i64 0, .int .i64 0, .string ⟨#[]⟩]), .string ⟨#[]⟩], []⟩ 8 (by kernel_rfl) (by kernel_rfl) (by kernel_rfl) (by kernel_rfl)) ?_
  intro W base args ds gs before hval hW _ _ _
  refine law_contract (P := Try.prog) Try.tok (by kernel_rfl) (by kernel_rfl) (by kernel_rfl) (by kernel_rfl) (rt := 4) (by kernel_rfl) Try.underlying4 rfl (fun ds hl => ?_) pure W base args ds gs before hval hW
  rw [Try.params3] at hl
  match ds, hl with
  | [a0, a1], _ => rfl
theorem over : Rows.fnExactFormatFillRow.holds Try.pinned (OpenSpec.ofChange Rows.fnExactFormatFillSpec) :=
  OpenClaim.holds_of_wide 3 Try.f3 rfl rfl rfl rfl rfl rfl rfl ⟨rfl, rfl, rfl, rfl, rfl⟩ rfl rfl rfl rfl rfl (by kernel_rfl) Try.func3 (by kernel_rfl)
    (of_decide_eq_true (by kernel_rfl)) (by unfold Func.isWrapper; first | (rw [if_pos (by decide +kernel)]; kernel_rfl) | (rw [if_neg (by decide +kernel)]; exact ⟨rfl, rfl⟩))
    (fun os started H enc _ => lifted os started H enc)
theorem proved : Rows.FnExactFormatFillSaid := over
#print axioms proved
end Go.Proofs.Ytndnhlfdkhcpnaa.fnExactFormatFill
namespace Go.Proofs.Ytndnhlfdkhcpnaa
/-- The row, under a short name, for the claim. -/
theorem fnExactFormatFill_holds : Rows.FnExactFormatFillSaid := fnExactFormatFill.proved
end Go.Proofs.Ytndnhlfdkhcpnaa
