/- FormatDomains: the program and the reference write the same text, for every list of word lists that the law admits; no further conditions. -/
import Derived.Test.YtfagjlbokkhpdaaRows
import Derived.Test.YtfagjlbokkhpdaaAvFd
import Derived.WalkKit
import Derived.ProofKit
import Derived.OpenShut
import Derived.ShutString
import Derived.ChangeOld
import Derived.Below
import Derived.SizedLaws
namespace Go.Proofs.Ytfagjlbokkhpdaa.fnExactFormatDomains
open Go.ChangeShapes Go.WideShapes Go.ChangeAt Go.RowKit
open Go.Av
set_option linter.unusedVariables false
theorem own : ownKnob Try.prog.godebug = none := by kernel_rfl
set_option maxRecDepth 100000 in
theorem pure (dvs : List DV) (h : ArgsWf Try.tab Try.f6.params.toList dvs) : Pure Try.prog 6 dvs (.one (.b true)) := by
  rw [Try.params6] at h
  obtain ⟨d0, _, rfl, h0, rfl⟩ := h
  have h0 : ∃ d, d0 = .one d ∧ WfR [.sl [.sl [.str]]] [d] := h0
  obtain ⟨c0, rfl, e0⟩ := h0
  obtain ⟨x0, q0, o0, p0⟩ := Gx.dec_L (Gx.dec_L Gx.dec_S) e0
  simp only [List.cons.injEq, and_true] at q0
  subst q0
  exact Lw.lawFormatDomains x0 o0 p0
set_option maxRecDepth 100000 in
theorem lifted (os : Os) (started : os.Started) (H : Type) (enc : TypeId × Value → H) :
    ReturnsInHanded {} Try.checked os 6 .any (Rows.fnExactFormatDomainsSpec.pre6 enc Try.prog Try.f6 Rows.fnExactFormatDomainsRow.domain false) (Rows.fnExactFormatDomainsSpec.post enc Try.prog Try.f6 false true false false) := by
  refine returnsInHanded_of_change_sized (C := Try.checked) own started (by kernel_rfl) Try.func6
    (ChangeSpec.witness6 (enc := enc) (C := Try.checked) false ⟨#[], #[.slice none 0 0], []⟩ 8 (by kernel_rfl) (by kernel_rfl) (by kernel_rfl) (by kernel_rfl)) ?_
  intro W base args ds gs before hval hW _ _ _
  refine law_contract (P := Try.prog) Try.tok (by kernel_rfl) (by kernel_rfl) (by kernel_rfl) (by kernel_rfl) (rt := 4) (by kernel_rfl) Try.underlying4 rfl (fun ds hl => ?_) pure W base args ds gs before hval hW
  rw [Try.params6] at hl
  match ds, hl with
  | [a0], _ => rfl
theorem over : Rows.fnExactFormatDomainsRow.holds Try.pinned (OpenSpec.ofChange Rows.fnExactFormatDomainsSpec) :=
  OpenClaim.holds_of_wide 6 Try.f6 rfl rfl rfl rfl rfl rfl rfl ⟨rfl, rfl, rfl, rfl, rfl⟩ rfl rfl rfl rfl rfl (by kernel_rfl) Try.func6 (by kernel_rfl)
    (of_decide_eq_true (by kernel_rfl)) (by unfold Func.isWrapper; first | (rw [if_pos (by decide +kernel)]; kernel_rfl) | (rw [if_neg (by decide +kernel)]; exact ⟨rfl, rfl⟩))
    (fun os started H enc _ => lifted os started H enc)
theorem proved : Rows.FnExactFormatDomainsSaid := over
#print axioms proved
end Go.Proofs.Ytfagjlbokkhpdaa.fnExactFormatDomains
namespace Go.Proofs.Ytfagjlbokkhpdaa
/-- The row, under a short name, for the claim. -/
theorem fnExactFormatDomains_holds : Rows.FnExactFormatDomainsSaid := fnExactFormatDomains.proved
end Go.Proofs.Ytfagjlbokkhpdaa
