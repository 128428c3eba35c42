/- The program's EventName and the reference's EventName give the same text, for every kind; for every integer, no conditions. -/
import Derived.Test.YtfagjlbokkhpdaaPFnExactEventNamex1
namespace Go.Proofs.Ytfagjlbokkhpdaa.Pure
open Go.RowKit Go.Proofs.Ytfagjlbokkhpdaa.PFnExactEventName Go.Proofs.YtfagjlbokkhpdaaW.PrintWords Go.Proofs.YtfagjlbokkhpdaaW.PrintLast

theorem FnExactEventName : laws_FnExactEventName.Pure := by
  intro a _
  by_cases h : 0 ≤ a ∧ a ≤ 9
  · obtain ⟨h0, h1⟩ := h
    have : a = 0 ∨ a = 1 ∨ a = 2 ∨ a = 3 ∨ a = 4 ∨ a = 5 ∨ a = 6 ∨ a = 7 ∨ a = 8 ∨ a = 9 := by omega
    have key : ∀ x, spec_EventName.f a = some x → impl_EventName.f a = some x → laws_FnExactEventName.f a = some true := by
      intro x hs hi
      unfold laws_FnExactEventName.f
      rw [hs, hi]
      simp
    rcases this with rfl | rfl | rfl | rfl | rfl | rfl | rfl | rfl | rfl | rfl <;> exact key _ rfl rfl
  · have e1 : spec_l1In.f a 1 9 = some false := by
      unfold spec_l1In.f
      by_cases k : a ≥ 1
      · rw [if_pos k]; simp; omega
      · rw [if_neg k]
    have e2 : impl_at.f a 10 = some false := by
      unfold impl_at.f
      by_cases k : a ≥ 0
      · rw [if_pos k]; simp; omega
      · rw [if_neg k]
    have e2' : spec_EventName.f a = some ⟨#[]⟩ := by
      unfold spec_EventName.f
      rw [e1]; rfl
    have e3 : impl_EventName.f a = some ⟨#[]⟩ := by
      unfold impl_EventName.f
      simp only [Option.bind_some, List.length_cons, List.length_nil]
      show (impl_at.f a 10).bind _ = _
      rw [e2]; rfl
    unfold laws_FnExactEventName.f
    rw [e2', e3]; simp

end Go.Proofs.Ytfagjlbokkhpdaa.Pure
