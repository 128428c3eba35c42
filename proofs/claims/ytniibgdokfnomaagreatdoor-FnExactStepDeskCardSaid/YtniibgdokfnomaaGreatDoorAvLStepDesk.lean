/- The program's StepDesk returns what the reference's returns, for all arguments. -/
import Derived.Test.YtniibgdokfnomaaGreatDoorRows
import Derived.Test.YtniibgdokfnomaaGreatDoorCards
import Derived.Test.YtniibgdokfnomaaGreatDoorTie
import Derived.Test.YtniibgdokfnomaaGreatDoorAvLwStepDesk
import Derived.WalkKit
import Derived.ProofKit
import Derived.OpenShut
import Derived.ShutString
import Derived.ChangeOld
import Derived.Below
import Derived.SizedLaws
import Derived.LaidMore
import Derived.Stop.Joined
import Derived.Stop.LaidErr
import Derived.MakeChecks
import Derived.SevenTiedAt
import Derived.Lay
namespace Go.Proofs.YtniibgdokfnomaaGreatDoor.fnExactStepDesk
open Go.ChangeShapes Go.WideShapes Go.ChangeAt Go.RowKit
open Go.Av
set_option linter.unusedVariables false
theorem own : ownKnob Tryz.prog.godebug = none := by kernel_rfl
set_option maxRecDepth 100000 in
theorem pure (dvs : List DV) (h : ArgsWf Tryz.tab Tryz.f4.params.toList dvs) : Pure Tryz.prog 4 dvs (.one (.b true)) := by
  rw [Tryz.params4] at h
  obtain ⟨d0, _, rfl, h0, ⟨d1, _, rfl, h1, rfl⟩⟩ := h
  have h0 : ∃ row, d0 = .agg row ∧ WfR Gx.House.tys row := h0
  obtain ⟨row0, rfl, e0⟩ := h0
  obtain ⟨x0, rfl, o0⟩ := Gx.House.dec e0
  have h1 : ∃ row, d1 = .agg row ∧ WfR Gx.Grid.tys row := h1
  obtain ⟨row1, rfl, e1⟩ := h1
  obtain ⟨x1, rfl, o1⟩ := Gx.Grid.dec e1
  exact Lw.lawStepDesk x0 o0 x1 o1
theorem wld {W : World} (h : laidMetH Tryz.prog Rows.fnExactStepDeskRow.laid W) : Wld Tryz.prog W := trivial
theorem wit_met (os : Os) (args : Array Value) : laidMetH Tryz.prog Rows.fnExactStepDeskRow.laid ((World.laidAll Tryz.prog os Rows.fnExactStepDeskRow.laid).forCall (fun _ _ => 0) ⟨#[], args, []⟩).memory := by
  rw [MakeChecks.laidMetH_plain _ _ _ (by kernel_rfl)]
  exact laidMet_laidAll _ (by kernel_rfl) (by kernel_rfl)
set_option maxRecDepth 100000 in
theorem lifted (os : Os) (started : os.Started) (H : Type) (enc : TypeId × Value → H) :
    ReturnsInHanded {} Tryz.checked os 4 .any (fun w args => (Rows.fnExactStepDeskSpec.pre enc Tryz.prog Tryz.f4 Rows.fnExactStepDeskRow.domain false w args ∧ laidMetH Tryz.prog Rows.fnExactStepDeskRow.laid w) ∧ sizedMet enc Tryz.prog Tryz.f4 (OpenSpec.ofChange Rows.fnExactStepDeskSpec) false w args)
      (Rows.fnExactStepDeskSpec.post enc Tryz.prog Tryz.f4 false true false false) := by
  refine returnsInHanded_shaped_and (C := Tryz.checked) (X := fun w _ => laidMetH Tryz.prog Rows.fnExactStepDeskRow.laid w) (fun _ _ _ hh h => h.of_heap hh) own started (by kernel_rfl) Tryz.func4
    (ChangeSpec.witness_shaped (enc := enc) (C := Tryz.checked) (os := os) (X := fun w _ => laidMetH Tryz.prog Rows.fnExactStepDeskRow.laid w) false (World.laidAll Tryz.prog os Rows.fnExactStepDeskRow.laid) #[(.agg #[.slice none 0 0, .slice none 0 0, .int .i64 0, .int .i64 0, .string ⟨#[]⟩, .string ⟨#[]⟩, .slice none 0 0, .int .i64 0, .slice none 0 0, .slice none 0 0, .slice none 0 0, .slice none 0 0, .int .i64 0]), (.agg #[.int .i64 0, .int .i64 0, .string ⟨#[]⟩])] 8 (World.laidAll_os _ _ _) (World.shaped_of_ZipB (by kernel_rfl) (by kernel_rfl)) (by kernel_rfl) (by kernel_rfl) (by kernel_rfl) (wit_met os _)) ?_
  intro W base args ds gs before hval hW hX hsh
  refine law_contract (P := Tryz.prog) Tryz.tok (by kernel_rfl) (by kernel_rfl) (by kernel_rfl) (by kernel_rfl) (rt := 4) (by kernel_rfl) Tryz.underlying4 rfl (fun ds hl => ?_) pure W base args ds gs before hval hW hsh (wld hX)
  rw [Tryz.params4] at hl
  match ds, hl with
  | [a0, a1], _ => rfl
theorem over : Rows.fnExactStepDeskRow.holds Tryz.pinned (OpenSpec.ofChange Rows.fnExactStepDeskSpec) :=
  OpenClaim.holds_of_wide 4 Tryz.f4 rfl rfl rfl rfl rfl rfl rfl ⟨rfl, rfl, rfl, rfl, rfl⟩ rfl rfl rfl rfl rfl (by kernel_rfl) Tryz.func4 (by kernel_rfl)
    (of_decide_eq_true (by kernel_rfl)) (by unfold Func.isWrapper; first | (rw [if_pos (by decide +kernel)]; kernel_rfl) | (rw [if_neg (by decide +kernel)]; exact ⟨rfl, rfl⟩))
    (fun os started H enc _ => lifted os started H enc)
theorem proved : Rows.FnExactStepDeskCardSaid :=
  Claim7.holds_tied_plain_at .later [] [.data, .pinned] true (true, "bf13ab6ac1cd296ca2ff628b8c852a313ea489a66b6990f87e193fad6cac7e6d") false
    over (fun _ h => by cases h) (by kernel_rfl) (fun _ h => by cases h) fnExactStepDesk_row_tie rfl ⟨rfl, rfl⟩ (by kernel_rfl) rfl
    (fun f fn hf hfn => by
      obtain rfl : f = 4 := Option.some.inj ((show Tryz.prog.funcNamed "loop.example/g03003/laws.FnExactStepDesk" = some 4 by kernel_rfl).symm.trans hf) |>.symm
      obtain rfl : fn = Tryz.f4 := (Option.some.inj (Tryz.func4.symm.trans hfn)).symm
      exact ⟨by kernel_rfl, fun j t ht => by
        rw [Tryz.params4] at ht
        have hm : t ∈ [34, 25] := by simpa using Array.mem_of_getElem? ht
        have hall : ([34, 25].all fun u => !Tryz.prog.wantsStandIn u) = true := by kernel_rfl
        exact (show Tryz.prog.wantsStandIn t = false by simpa using List.all_eq_true.1 hall t hm)⟩)
    (by kernel_rfl)
#print axioms proved
end Go.Proofs.YtniibgdokfnomaaGreatDoor.fnExactStepDesk
namespace Go.Proofs.YtniibgdokfnomaaGreatDoor
/-- The row, under a short name, for the claim. -/
theorem fnExactStepDesk_holds : Rows.FnExactStepDeskCardSaid := fnExactStepDesk.proved
end Go.Proofs.YtniibgdokfnomaaGreatDoor
