/- CountEvents: the program's and the reference's count the same events of the kind, for every list and kind whose size the law admits; no further conditions. -/
import Derived.Test.YtfagjlbokkhpdaaRows
import Derived.Test.YtfagjlbokkhpdaaAvCe
import Derived.WalkKit
import Derived.ProofKit
import Derived.OpenShut
import Derived.ShutString
import Derived.ChangeOld
import Derived.Below
import Derived.SizedLaws
namespace Go.Proofs.Ytfagjlbokkhpdaa.fnExactCountEvents
open Go.ChangeShapes Go.WideShapes Go.ChangeAt Go.RowKit
open Go.Av
set_option linter.unusedVariables false
theorem own : ownKnob Try.prog.godebug = none := by kernel_rfl
set_option maxRecDepth 100000 in
theorem pure (dvs : List DV) (h : ArgsWf Try.tab Try.f8.params.toList dvs) : Pure Try.prog 8 dvs (.one (.b true)) := by
  rw [Try.params8] at h
  obtain ⟨d1, _, rfl, h1, d2, _, rfl, h2, rfl⟩ := h
  have h1 : ∃ d, d1 = .one d ∧ WfR [.sl Gx.Event.tys] [d] := h1
  have h2 : ∃ d, d2 = .one d ∧ WfR [.int .i64] [d] := h2
  obtain ⟨d, rfl, hd⟩ := h1
  obtain ⟨l, e, h3, h4⟩ := Gx.dec_L Gx.Event.dec hd
  obtain ⟨k, rfl, hk⟩ := h2
  obtain ⟨n, e2, h5⟩ := Gx.dec_I hk
  simp only [List.cons.injEq, and_true] at e e2
  subst e; subst e2
  exact Lw.law l h3 h4 n
set_option maxRecDepth 100000 in
theorem lifted (os : Os) (started : os.Started) (H : Type) (enc : TypeId × Value → H) :
    ReturnsInHanded {} Try.checked os 8 .any (Rows.fnExactCountEventsSpec.pre6 enc Try.prog Try.f8 Rows.fnExactCountEventsRow.domain false) (Rows.fnExactCountEventsSpec.post enc Try.prog Try.f8 false true false false) := by
  refine returnsInHanded_of_change_sized (C := Try.checked) own started (by kernel_rfl) Try.func8
    (ChangeSpec.witness6 (enc := enc) (C := Try.checked) false ⟨#[], #[.slice none 0 0, .int .i64 0], []⟩ 8 (by kernel_rfl) (by kernel_rfl) (by kernel_rfl) (by kernel_rfl)) ?_
  intro W base args ds gs before hval hW _ _ _
  refine law_contract (P := Try.prog) Try.tok (by kernel_rfl) (by kernel_rfl) (by kernel_rfl) (by kernel_rfl) (rt := 4) (by kernel_rfl) Try.underlying4 rfl (fun ds hl => ?_) pure W base args ds gs before hval hW
  rw [Try.params8] at hl
  match ds, hl with
  | [a, b], _ => rfl
theorem over : Rows.fnExactCountEventsRow.holds Try.pinned (OpenSpec.ofChange Rows.fnExactCountEventsSpec) :=
  OpenClaim.holds_of_wide 8 Try.f8 rfl rfl rfl rfl rfl rfl rfl ⟨rfl, rfl, rfl, rfl, rfl⟩ rfl rfl rfl rfl rfl (by kernel_rfl) Try.func8 (by kernel_rfl)
    (of_decide_eq_true (by kernel_rfl)) (by unfold Func.isWrapper; first | (rw [if_pos (by decide +kernel)]; kernel_rfl) | (rw [if_neg (by decide +kernel)]; exact ⟨rfl, rfl⟩))
    (fun os started H enc _ => lifted os started H enc)
theorem proved : Rows.FnExactCountEventsSaid := over
#print axioms proved
end Go.Proofs.Ytfagjlbokkhpdaa.fnExactCountEvents
namespace Go.Proofs.Ytfagjlbokkhpdaa
/-- The row, under a short name, for the claim. -/
theorem fnExactCountEvents_holds : Rows.FnExactCountEventsSaid := fnExactCountEvents.proved
end Go.Proofs.Ytfagjlbokkhpdaa
