/- The program's NewHouse returns what the reference's returns, for all arguments. -/
import Derived.Test.YtppbkdpofmplaabGreatRows
import Derived.Test.YtppbkdpofmplaabGreatAvLwNewHouse
import Derived.WalkKit
import Derived.ProofKit
import Derived.OpenShut
import Derived.ShutString
import Derived.ChangeOld
import Derived.Below
import Derived.SizedLaws
namespace Go.Proofs.YtppbkdpofmplaabGreat.fnExactNewHouse
open Go.ChangeShapes Go.WideShapes Go.ChangeAt Go.RowKit
open Go.Av
set_option linter.unusedVariables false
theorem own : ownKnob Tryz.prog.godebug = none := by kernel_rfl
set_option maxRecDepth 100000 in
theorem pure (dvs : List DV) (h : ArgsWf Tryz.tab Tryz.f3.params.toList dvs) : Pure Tryz.prog 3 dvs (.one (.b true)) := by
  rw [Tryz.params3] at h
  obtain ⟨d0, _, rfl, h0, ⟨d1, _, rfl, h1, rfl⟩⟩ := h
  have h0 : ∃ d, d0 = .one d ∧ WfR [.sl Gx.Listed.tys] [d] := h0
  obtain ⟨c0, rfl, e0⟩ := h0
  obtain ⟨x0, q0, o0, p0⟩ := Gx.dec_L Gx.Listed.dec e0
  simp only [List.cons.injEq, and_true] at q0
  subst q0
  have h1 : ∃ d, d1 = .one d ∧ WfR [.sl Gx.Meaning.tys] [d] := h1
  obtain ⟨c1, rfl, e1⟩ := h1
  obtain ⟨x1, q1, o1, p1⟩ := Gx.dec_L Gx.Meaning.dec e1
  simp only [List.cons.injEq, and_true] at q1
  subst q1
  exact Lw.lawNewHouse x0 o0 p0 x1 o1 p1
set_option maxRecDepth 100000 in
theorem lifted (os : Os) (started : os.Started) (H : Type) (enc : TypeId × Value → H) :
    ReturnsInHanded {} Tryz.checked os 3 .any (Rows.fnExactNewHouseSpec.pre6 enc Tryz.prog Tryz.f3 Rows.fnExactNewHouseRow.domain false) (Rows.fnExactNewHouseSpec.post enc Tryz.prog Tryz.f3 false true false false) := by
  refine returnsInHanded_shaped (C := Tryz.checked) own started (by kernel_rfl) Tryz.func3
    (ChangeSpec.witness6 (enc := enc) (C := Tryz.checked) false ⟨#[], #[.slice none 0 0, .slice none 0 0], []⟩ 8 (by kernel_rfl) (by kernel_rfl) (by kernel_rfl) (by kernel_rfl)) ?_
  intro W base args ds gs before hval hW hsh
  refine law_contract (P := Tryz.prog) Tryz.tok (by kernel_rfl) (by kernel_rfl) (by kernel_rfl) (by kernel_rfl) (rt := 4) (by kernel_rfl) Tryz.underlying4 rfl (fun ds hl => ?_) pure W base args ds gs before hval hW hsh
  rw [Tryz.params3] at hl
  match ds, hl with
  | [a0, a1], _ => rfl
theorem over : Rows.fnExactNewHouseRow.holds Tryz.pinned (OpenSpec.ofChange Rows.fnExactNewHouseSpec) :=
  OpenClaim.holds_of_wide 3 Tryz.f3 rfl rfl rfl rfl rfl rfl rfl ⟨rfl, rfl, rfl, rfl, rfl⟩ rfl rfl rfl rfl rfl (by kernel_rfl) Tryz.func3 (by kernel_rfl)
    (of_decide_eq_true (by kernel_rfl)) (by unfold Func.isWrapper; first | (rw [if_pos (by decide +kernel)]; kernel_rfl) | (rw [if_neg (by decide +kernel)]; exact ⟨rfl, rfl⟩))
    (fun os started H enc _ => lifted os started H enc)
theorem proved : Rows.FnExactNewHouseSaid := over
#print axioms proved
end Go.Proofs.YtppbkdpofmplaabGreat.fnExactNewHouse
namespace Go.Proofs.YtppbkdpofmplaabGreat
/-- The row, under a short name, for the claim. -/
theorem fnExactNewHouse_holds : Rows.FnExactNewHouseSaid := fnExactNewHouse.proved
end Go.Proofs.YtppbkdpofmplaabGreat
