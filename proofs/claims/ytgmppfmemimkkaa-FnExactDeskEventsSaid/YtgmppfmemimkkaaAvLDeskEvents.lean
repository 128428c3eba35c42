/- The program's DeskEvents returns what the reference's returns, for all arguments. -/
import Derived.Test.YtgmppfmemimkkaaRows
import Derived.Test.YtgmppfmemimkkaaAvLwDeskEvents
import Derived.WalkKit
import Derived.ProofKit
import Derived.OpenShut
import Derived.ShutString
import Derived.ChangeOld
import Derived.Below
import Derived.SizedLaws
namespace Go.Proofs.Ytgmppfmemimkkaa.fnExactDeskEvents
open Go.ChangeShapes Go.WideShapes Go.ChangeAt Go.RowKit
open Go.Av
set_option linter.unusedVariables false
theorem own : ownKnob Try.prog.godebug = none := by kernel_rfl
set_option maxRecDepth 100000 in
theorem pure (dvs : List DV) (h : ArgsWf Try.tab Try.f3.params.toList dvs) : Pure Try.prog 3 dvs (.one (.b true)) := by
  rw [Try.params3] at h
  obtain ⟨d0, _, rfl, h0, ⟨d1, _, rfl, h1, ⟨d2, _, rfl, h2, rfl⟩⟩⟩ := h
  have h0 : ∃ row, d0 = .agg row ∧ WfR Gx.Grid.tys row := h0
  obtain ⟨row0, rfl, e0⟩ := h0
  obtain ⟨x0, rfl, o0⟩ := Gx.Grid.dec e0
  have h1 : ∃ d, d1 = .one d ∧ WfR [.str] [d] := h1
  obtain ⟨c1, rfl, e1⟩ := h1
  obtain ⟨x1, q1, o1⟩ := Gx.dec_S e1
  simp only [List.cons.injEq, and_true] at q1
  subst q1
  have h2 : ∃ d, d2 = .one d ∧ WfR [.sl Gx.Clue.tys] [d] := h2
  obtain ⟨c2, rfl, e2⟩ := h2
  obtain ⟨x2, q2, o2, p2⟩ := Gx.dec_L Gx.Clue.dec e2
  simp only [List.cons.injEq, and_true] at q2
  subst q2
  exact Lw.lawDeskEvents x0 o0 x1 o1 x2 o2 p2
set_option maxRecDepth 100000 in
theorem lifted (os : Os) (started : os.Started) (H : Type) (enc : TypeId × Value → H) :
    ReturnsInHanded {} Try.checked os 3 .any (Rows.fnExactDeskEventsSpec.pre6 enc Try.prog Try.f3 Rows.fnExactDeskEventsRow.domain false) (Rows.fnExactDeskEventsSpec.post enc Try.prog Try.f3 false true false false) := by
  refine returnsInHanded_shaped (C := Try.checked) own started (by kernel_rfl) Try.func3
    (ChangeSpec.witness6 (enc := enc) (C := Try.checked) false ⟨#[], #[(.agg #[.int .i64 0, .int .i64 0, .string ⟨#[]⟩]), .string ⟨#[]⟩, .slice none 0 0], []⟩ 8 (by kernel_rfl) (by kernel_rfl) (by kernel_rfl) (by kernel_rfl)) ?_
  intro W base args ds gs before hval hW hsh
  refine law_contract (P := Try.prog) Try.tok (by kernel_rfl) (by kernel_rfl) (by kernel_rfl) (by kernel_rfl) (rt := 4) (by kernel_rfl) Try.underlying4 rfl (fun ds hl => ?_) pure W base args ds gs before hval hW hsh (wld_none (by kernel_rfl) W)
  rw [Try.params3] at hl
  match ds, hl with
  | [a0, a1, a2], _ => rfl
theorem over : Rows.fnExactDeskEventsRow.holds Try.pinned (OpenSpec.ofChange Rows.fnExactDeskEventsSpec) :=
  OpenClaim.holds_of_wide 3 Try.f3 rfl rfl rfl rfl rfl rfl rfl ⟨rfl, rfl, rfl, rfl, rfl⟩ rfl rfl rfl rfl rfl (by kernel_rfl) Try.func3 (by kernel_rfl)
    (of_decide_eq_true (by kernel_rfl)) (by unfold Func.isWrapper; first | (rw [if_pos (by decide +kernel)]; kernel_rfl) | (rw [if_neg (by decide +kernel)]; exact ⟨rfl, rfl⟩))
    (fun os started H enc _ => lifted os started H enc)
theorem proved : Rows.FnExactDeskEventsSaid := over
#print axioms proved
end Go.Proofs.Ytgmppfmemimkkaa.fnExactDeskEvents
namespace Go.Proofs.Ytgmppfmemimkkaa
/-- The row, under a short name, for the claim. -/
theorem fnExactDeskEvents_holds : Rows.FnExactDeskEventsSaid := fnExactDeskEvents.proved
end Go.Proofs.Ytgmppfmemimkkaa
